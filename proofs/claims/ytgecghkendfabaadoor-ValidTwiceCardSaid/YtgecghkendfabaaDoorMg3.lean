import Derived.Test.YtgecghkendfabaaDoorMg2
/- Names: lists of runes and checks, as the references do. -/
namespace Go.Abs
set_option linter.unusedSimpArgs false
set_option linter.unusedVariables false
open Go.Proofs Go.Nm Go.RowKit Go.Lib
set_option linter.unusedVariables false
set_option maxRecDepth 8000
variable {H : Heap}
theorem rletter_c {r : Int} : AC Tryd.prog 82 [.s (.int .i64 r)] H (fun x H' => x = .s (.bool (letR r)) ∧ H' = H) := by
  refine AC.body Tryd.func82 rfl rfl (n := 21) (res := [.tmp 2]) rfl rfl (by simp) ?_
  simp only [ent]
  (repeat' (first | refine wk ?_ | refine wk2 ?_ ?_ | with_reducible refine wkF fun _ _ _ => ?_ | with_reducible intro _ | exact ag | fail))
  all_goals
    refine fin1 ⟨?_, rfl⟩
    simp only [resV, letR]
    simp_all <;> omega
theorem rdigit_c {r : Int} : AC Tryd.prog 83 [.s (.int .i64 r)] H (fun x H' => x = .s (.bool (digR r)) ∧ H' = H) := by
  refine AC.body Tryd.func83 rfl rfl (n := 9) (res := [.tmp 2]) rfl rfl (by simp) ?_
  simp only [ent]
  (repeat' (first | refine wk ?_ | refine wk2 ?_ ?_ | with_reducible refine wkF fun _ _ _ => ?_ | with_reducible intro _ | exact ag | fail))
  all_goals
    refine fin1 ⟨?_, rfl⟩
    simp only [resV, digR]
    simp_all <;> omega
/-- A number, as a row's element. -/
def i1 (x : Int) : List TV := [.s (.int .i64 x)]
theorem each_i1 (l : List Int) : Each 1 (l.map i1) := fun e he => by obtain ⟨x, _, rfl⟩ := List.mem_map.1 he; rfl
/-- A text that is short enough for a list of its runes. -/
def few (s : ByteArray) : Prop := s.size < 4398046511104
theorem few.fits {s : ByteArray} (h : few s) : fits s := Nat.lt_trans h (by decide)
theorem rlist_c {s : ByteArray} (hf : few s) : AC Tryd.prog 81 [.s (.string s)] H (fun r H' => r = .vs 1 ((rlist s).map i1) ∧ H' = H) := by
  refine AC.body Tryd.func81 rfl rfl (n := 22) (res := [.tmp 2]) rfl rfl (by simp) ?_
  simp only [ent]
  have hz : s.size < 4398046511104 := hf
  (repeat' (first | refine wk ?_ | refine wk2 ?_ ?_ | with_reducible refine wkF fun _ _ _ => ?_ | with_reducible intro _ | exact ag | fail))
  refine ARun.rounds (fun st : Nat × Nat × List Int × Nat => ⟨[(0, .s (.string (s.extract st.2.1 s.size))), (3, ownT st.2.2.2 1 (st.2.2.1.map i1))], ownH H st.2.2.2 (st.2.2.1.map i1)⟩) (fun st => st.1)
    (fun st => st.2.1 ≤ s.size ∧ s.size ≤ st.2.1 + st.1 ∧ st.2.2.1 ++ rl s st.1 st.2.1 = rlist s ∧ st.2.2.1.length + st.1 ≤ s.size ∧ (st.2.2.1.map i1 ≠ [] → H st.2.2.2 = none)) ?_ (s.size, 0, [], 0) ⟨by simp, by simp, rfl, by simp, fun h => absurd rfl h⟩ ?_
  · rintro ⟨f, p, L, b⟩ ⟨hp, hfu, hr, hlen, hb⟩ next
    simp only [] at hp hfu hr hlen hb ⊢
    have hsz := ex_size s p s.size (Nat.le_refl _)
    by_cases hlt : p < s.size
    · obtain ⟨f, rfl⟩ : ∃ g, f = g + 1 := ⟨f - 1, by omega⟩
      rw [rl, if_pos hlt] at hr
      have hw := Nm.width_pos s p
      have hwl := width_le s p hlt
      have O := fun H => one_c (H := H) (s := s.extract p s.size) (by omega) (by unfold fits; omega)
      rw [rv_ex s p hp, decode_ex s p hp] at O
      have h1 : (0 : Int) < ((s.size - p : Nat) : Int) := by omega
      have h2 : (0 : Int) ≤ ((Utf8.decode s p).2 : Int) := by omega
      have h3 : ((Utf8.decode s p).2 : Int) ≤ ((s.size - p : Nat) : Int) := by omega
      have hx := ex_ex s p (Utf8.decode s p).2
      rw [hsz] at hx
      replace hb := later hb
      replace hr := later hr
      (repeat' (first | refine wk ?_ | refine wk2 ?_ ?_ | with_reducible refine wkF fun _ _ _ => ?_ | with_reducible intro _ | refine Calling.eq (O _) ?_ | refine Doing.fresh (oc_build1 ap54 (fun _ h => by cases h; rfl) rfl rfl (by decide) (by decide)) fun _ _ _ => ?_ | refine Doing.fresh (oc_append1 (e := i1 (rv s p)) ap54 us54 (each_i1 L) rfl rfl hb.go (by assumption) (by simp; omega) (by simp; omega)) fun _ _ _ => ?_ | exact ag | fail))
      rename_i b' hb' _
      refine ARun.weaken (next.go (f, p + (Utf8.decode s p).2, L ++ [rv s p], b') ⟨by simp only []; omega, by simp only []; omega, by simp only []; rw [← hr.go]; simp, by simp; omega, fun _ => hb'⟩ (by simp only []; omega)) ?_
      simp only [List.map_append, List.map_cons, List.map_nil]
      exact leK (Sub.refl _)
    · have h0 : decide ((0 : Int) < ((s.size - p : Nat) : Int)) = false := by simp; omega
      have hrl : rl s f p = [] := by unfold rl; split <;> simp_all
      rw [hrl, List.append_nil] at hr
      rw [← hr]
      clear hr next
      replace hb := later hb
      (repeat' (first | refine wk ?_ | refine wk2 ?_ ?_ | with_reducible refine wkF fun _ _ _ => ?_ | with_reducible intro _ | exact ag | fail))
      have hown : L.map i1 = [] ∨ ownH H b (L.map i1) b = some (.cells (L.map i1).flatten) := by
        by_cases q : L.map i1 = []
        · exact .inl q
        · exact .inr (ownH_at q)
      by_cases q : L.map i1 = []
      · rw [q]
        exact Fin.done (vs := [.nils]) ag (Sub.refl _) conv_nils ⟨rfl, rfl⟩
      · exact Fin.done (vs := [ownT b 1 (L.map i1)]) ag (Sub.own (Sub.refl _) (hb.go q)) (conv_own (Sub.own (Sub.refl _) (hb.go q)) (.inr (ownH_at q)) (hb.go q) (each_i1 _)) ⟨rfl, rfl⟩
  · simp only [ex_all, List.map_nil, ownT_nil, ownH_nil]
    exact leK (Sub.refl _)
theorem rl_len (s : ByteArray) : (rlist s).length ≤ s.size := rl_length s s.size 0
theorem rRunes_c {s : ByteArray} (hf : few s) : AC Tryd.prog 69 [.s (.string s)] H (fun r H' => r = .s (.int .i64 (runes s)) ∧ H' = H) := by
  refine AC.body Tryd.func69 rfl rfl (n := 6) (res := [.tmp 2]) rfl rfl (by simp) ?_
  simp only [ent]
  have hz : s.size < 4398046511104 := hf
  have hr : runes s = (((rlist s).map i1).length : Int) := by rw [List.length_map]; exact runes_rl s (by omega)
  rw [hr]
  (repeat' (first | refine wk ?_ | refine wk2 ?_ ?_ | with_reducible refine wkF fun _ _ _ => ?_ | with_reducible intro _ | refine Calling.eq (rlist_c hf) ?_ | exact ag | fail))
  exact fin0
theorem get_i1 {l : List Int} {i : Nat} {x : Int} (h : l[i]? = some x) : (l.map i1)[i]? = some [.s (.int .i64 x)] := by rw [List.getElem?_map, h]; rfl
theorem rstem_c {s : ByteArray} (hf : few s) : AC Tryd.prog 67 [.s (.string s)] H (fun r H' => r = .s (.bool (stem s)) ∧ H' = H) := by
  refine AC.body Tryd.func67 rfl rfl (n := 44) (res := [.tmp 2]) rfl rfl (by simp) ?_
  simp only [ent]
  have hz : s.size < 4398046511104 := hf
  have hl := rl_len s
  have C := fun H => rlist_c (H := H) hf
  rw [stem_rl]
  generalize rlist s = l at hl C
  obtain ⟨es, hes, hlen, hget⟩ : ∃ es : List (List TV), l.map i1 = es ∧ es.length = l.length ∧ ∀ (i : Nat) (x : Int), l[i]? = some x → es[i]? = some [.s (.int .i64 x)] := ⟨_, rfl, List.length_map _, fun i x h => get_i1 h⟩
  rw [hes] at C
  clear hes
  cases l with
  | nil =>
    simp only [stemL]
    clear hget
    (repeat' (first | refine wk ?_ | refine wk2 ?_ ?_ | with_reducible refine wkF fun _ _ _ => ?_ | with_reducible intro _ | refine Calling.eq (C _) ?_ | exact ag | fail))
    exact fin0
  | cons c t =>
    have h0 : (((t.length + 1 : Nat) : Int) == 0) = false := by simp; omega
    have hg := hget 0 c rfl
    replace hget := later hget
    cases hc : letR c with
    | false =>
      simp only [stemL, hc, Bool.false_and]
      (repeat' (first | refine wk ?_ | refine wk2 ?_ ?_ | with_reducible refine wkF fun _ _ _ => ?_ | with_reducible intro _ | refine Calling.eq (C _) ?_ | refine Calling.eq (rletter_c) ?_ | exact ag | fail))
      exact fin0
    | true =>
      simp only [stemL, hc, Bool.true_and]
      (repeat' (first | refine wk ?_ | refine wk2 ?_ ?_ | with_reducible refine wkF fun _ _ _ => ?_ | with_reducible intro _ | refine Calling.eq (C _) ?_ | refine Calling.eq (rletter_c) ?_ | exact ag | fail))
      refine ARun.rounds (fun i : Nat => ⟨[(3, .vs 1 es), (4, .s (.int .i64 ((i + 1 : Nat) : Int)))], H⟩) (fun i => t.length - i) (fun i => i ≤ t.length ∧ (t.drop i).all okR = t.all okR) ?_ 0 ⟨by omega, rfl⟩ ?_
      · rintro i ⟨hi, hr⟩ next
        by_cases hlt : i < t.length
        · have hgt : (c :: t)[i + 1]? = some t[i] := by simp [hlt]
          have hg2 := hget.go _ _ hgt
          have h1 : ((i + 1 : Nat) : Int) < ((t.length + 1 : Nat) : Int) := by omega
          have hw := w64s (i := i + 1) (by simp at hl; omega)
          rw [List.drop_eq_getElem_cons hlt, List.all_cons] at hr
          replace hr := later hr
          clear hgt
          generalize t[i] = x at *
          have ho : okR x = (letR x || digR x || (x == 95)) := by unfold okR; rw [Bool.eq_iff_iff]; simp
          replace ho := later ho
          have h2 : (0 : Int) ≤ ((i + 1 : Nat) : Int) := by omega
          cases q1 : letR x <;> cases q2 : digR x <;> cases q3 : (x == 95)
          all_goals
            have ho := ho.go
            rw [q1, q2, q3] at ho
            have hr := hr.go
            rw [ho] at hr
            simp only [Bool.or_true, Bool.or_false, Bool.true_or, Bool.false_or, Bool.true_and, Bool.false_and] at hr
          case false.false.false =>
            rw [← hr]
            clear hr next
            have q4 : (x != 95) = true := by simp at q3 ⊢; exact q3
            (repeat' (first | refine wk ?_ | refine wk2 ?_ ?_ | with_reducible refine wkF fun _ _ _ => ?_ | with_reducible intro _ | refine Calling.eq (rletter_c) ?_ | refine Calling.eq (rdigit_c) ?_ | exact ag | fail))
            exact fin0
          all_goals
            replace hr := later hr
            clear ho
            have q4 : (x != 95) = !(x == 95) := rfl
            rw [q3] at q4
            (repeat' (first | refine wk ?_ | refine wk2 ?_ ?_ | with_reducible refine wkF fun _ _ _ => ?_ | with_reducible intro _ | refine Calling.eq (rletter_c) ?_ | refine Calling.eq (rdigit_c) ?_ | exact ag | fail))
            exact ARun.weaken (next.go (i + 1) ⟨by omega, hr.go⟩ (by omega)) (leK (Sub.refl _))
        · have h1 : decide (((i + 1 : Nat) : Int) < ((t.length + 1 : Nat) : Int)) = false := by simp; omega
          rw [List.drop_of_length_le (by omega)] at hr
          rw [← hr]
          clear hr next
          (repeat' (first | refine wk ?_ | refine wk2 ?_ ?_ | with_reducible refine wkF fun _ _ _ => ?_ | with_reducible intro _ | exact ag | fail))
          exact fin0
      · exact leK (Sub.refl _)
theorem rparts_c {s : ByteArray} (hf : fits s) : AC Tryd.prog 66 [.s (.string s)] H (fun r H' => r = .tup [.s (.string (Nm.cutA s)), .s (.string (cutB s)), .s (.bool (Nm.has s))] ∧ H' = H) := by
  refine AC.body Tryd.func66 rfl rfl (n := 24) (res := [.tmp 2, .tmp 3, .tmp 4]) rfl rfl (by simp) ?_
  simp only [ent]
  unfold fits at hf
  have hsp := later (at_spec s)
  (repeat' (first | refine wk ?_ | refine wk2 ?_ ?_ | with_reducible refine wkF fun _ _ _ => ?_ | with_reducible intro _ | exact ag | fail))
  refine ARun.rounds (fun i : Nat => ⟨[(0, .s (.string s)), (5, .s (.int .i64 i))], H⟩) (fun i => s.size - i) (fun i => i ≤ s.size ∧ ∀ j, j < i → by_ s j ≠ 64) ?_ 0 ⟨by omega, fun j h => by omega⟩ ?_
  · rintro i ⟨hi, hno⟩ next
    replace hno := later hno
    by_cases hlt : i < s.size
    · have h1 : (i : Int) < s.size := by omega
      have hw := w64s (i := i) (by omega)
      by_cases h64 : by_ s i = 64
      · have h2 : (((by_ s i : Nat) : Int) == 64) = true := by simp; omega
        rcases hsp.go with ⟨_, _, _, g⟩ | ⟨j, hj, g1, g2, g3, g4, g5⟩
        · exact absurd h64 (g i hlt)
        · have e : j = i := by
            rcases Nat.lt_trichotomy j i with h | h | h
            · exact absurd g4 (hno.go j h)
            · exact h
            · exact absurd h64 (g5 i h)
          subst e
          rw [g1, g2, g3]
          have h3 : (0 : Int) ≤ j := by omega
          have h4 : (j : Int) ≤ s.size := by omega
          have h5 : ((j + 1 : Nat) : Int) ≤ s.size := by omega
          have h6 : (0 : Int) ≤ ((j + 1 : Nat) : Int) := by omega
          clear g1 g2 g3 g4 g5 h64 next
          (repeat' (first | refine wk ?_ | refine wk2 ?_ ?_ | with_reducible refine wkF fun _ _ _ => ?_ | with_reducible intro _ | exact ag | fail))
          refine ARun.drawB mixed [([], [0, 1, 2, 3, 4, 5, 6, 7, 8, 9], none)] (by kernel_rfl) (by rfl) ?_
          (repeat' (first | refine wk ?_ | refine wk2 ?_ ?_ | with_reducible refine wkF fun _ _ _ => ?_ | with_reducible intro _ | exact ag | fail))
          exact fin0
      · have h2 : (((by_ s i : Nat) : Int) == 64) = false := by simp; omega
        replace h64 := later h64
        (repeat' (first | refine wk ?_ | refine wk2 ?_ ?_ | with_reducible refine wkF fun _ _ _ => ?_ | with_reducible intro _ | exact ag | fail))
        exact ARun.weaken (next.go (i + 1) ⟨by omega, fun j hj => by
          rcases Nat.lt_or_ge j i with h | h
          · exact hno.go j h
          · rw [show j = i by omega]; exact h64.go⟩ (by omega)) (leK (Sub.refl _))
    · have h1 : decide ((i : Int) < s.size) = false := by simp; omega
      rcases hsp.go with ⟨g1, g2, g3, _⟩ | ⟨j, hj, _, _, _, g4, _⟩
      · rw [g1, g2, g3]
        clear g1 g2 g3 next
        (repeat' (first | refine wk ?_ | refine wk2 ?_ ?_ | with_reducible refine wkF fun _ _ _ => ?_ | with_reducible intro _ | exact ag | fail))
        exact fin0
      · exact absurd g4 (hno.go j (by omega))
  · exact leK (Sub.refl _)
theorem rversion_c {s : ByteArray} (hf : fits s) : AC Tryd.prog 68 [.s (.string s)] H (fun r H' => r = .s (.int .i64 (ver s)) ∧ H' = H) := by
  refine AC.body Tryd.func68 rfl rfl (n := 39) (res := [.tmp 2]) rfl rfl (by simp) ?_
  simp only [ent]
  by_cases hz : s.size < 1
  · have h0 : (s.size : Int) < 1 := by omega
    have hv : ver s = 0 := by unfold ver; rw [if_pos (by omega)]
    rw [hv]
    (repeat' (first | refine wk ?_ | refine wk2 ?_ ?_ | with_reducible refine wkF fun _ _ _ => ?_ | with_reducible intro _ | exact ag | fail))
    exact fin0
  have h0 : decide ((s.size : Int) < 1) = false := by simp; omega
  by_cases h3 : 3 < s.size
  · have h3' : (3 : Int) < s.size := by omega
    have hv : ver s = 0 := by unfold ver; rw [if_pos (.inr (.inl h3))]
    rw [hv]
    (repeat' (first | refine wk ?_ | refine wk2 ?_ ?_ | with_reducible refine wkF fun _ _ _ => ?_ | with_reducible intro _ | exact ag | fail))
    exact fin0
  have h3' : decide ((3 : Int) < s.size) = false := by simp; omega
  have hpos : 0 < s.size := by omega
  by_cases h48 : by_ s 0 = 48
  · have h4 : (((by_ s 0 : Nat) : Int) == 48) = true := by simp; omega
    have hv : ver s = 0 := by unfold ver; rw [if_pos (.inr (.inr h48))]
    rw [hv]
    clear hv
    (repeat' (first | refine wk ?_ | refine wk2 ?_ ?_ | with_reducible refine wkF fun _ _ _ => ?_ | with_reducible intro _ | exact ag | fail))
    exact fin0
  have h4 : (((by_ s 0 : Nat) : Int) == 48) = false := by simp; omega
  have hv : ver s = verFrom s s.size 0 0 := by unfold ver; rw [if_neg (by unfold by_ at h48; omega)]
  replace hv := later hv
  clear h48
  (repeat' (first | refine wk ?_ | refine wk2 ?_ ?_ | with_reducible refine wkF fun _ _ _ => ?_ | with_reducible intro _ | exact ag | fail))
  clear h4 h3' h0 hz
  refine ARun.rounds (fun st : Nat × Nat × Int => ⟨[(0, .s (.string s)), (3, .s (.int .i64 st.2.2)), (4, .s (.int .i64 st.2.1))], H⟩) (fun st => st.1) (fun st => s.size ≤ st.2.1 + st.1 ∧ verFrom s st.1 st.2.1 st.2.2 = ver s) ?_ (s.size, 0, 0) ⟨by simp, hv.go.symm⟩ ?_
  · rintro ⟨f, p, n⟩ ⟨hfu, hr⟩ next
    simp only [] at hfu hr ⊢
    by_cases hp : p < s.size
    · obtain ⟨f, rfl⟩ : ∃ g, f = g + 1 := ⟨f - 1, by omega⟩
      rw [verFrom, if_pos hp] at hr
      have h1 : (p : Int) < s.size := by omega
      have hw := w64s (i := p) (by omega)
      have hb8 := by_lt s p
      have hcast := cast_ hb8
      by_cases hd : 48 ≤ by_ s p ∧ by_ s p ≤ 57
      · have hdd : digR ((by_ s p : Nat) : Int) = true := by unfold digR; simp; omega
        rw [dec_ascii s p (by unfold by_ at hd; omega), if_neg (by simp only []; unfold by_ at hd; omega)] at hr
        have e : IntKind.i64.wrap (IntKind.i64.wrap (IntKind.i64.wrap (10 * n) + ((by_ s p : Nat) : Int)) - 48) = wrap64 (wrap64 (10 * n) + ((((s.get! p).toNat : Nat) : Int) - 48)) := by
          rw [w64_eq, w64_eq, w64_eq]; unfold wrap64; unfold by_; omega
        replace hr := later hr
        clear hd
        (repeat' (first | refine wk ?_ | refine wk2 ?_ ?_ | with_reducible refine wkF fun _ _ _ => ?_ | with_reducible intro _ | refine Calling.eq (rdigit_c) ?_ | exact ag | fail))
        exact ARun.weaken (next.go (f, p + 1, wrap64 (wrap64 (10 * n) + ((((s.get! p).toNat : Nat) : Int) - 48))) ⟨by simp only []; omega, hr.go⟩ (by simp only []; omega)) (leK (Sub.refl _))
      · have hdd : digR ((by_ s p : Nat) : Int) = false := by unfold digR; rw [Bool.eq_false_iff]; simp; omega
        have hr0 : ver s = 0 := by
          rw [← hr]
          by_cases ha : (s.get! p).toNat < 128
          · rw [dec_ascii s p ha, if_pos (by simp only []; unfold by_ at hd; omega)]
          · have := dec_high s p ha
            rw [if_pos (by omega)]
        rw [hr0]
        clear hr hr0 hd next
        (repeat' (first | refine wk ?_ | refine wk2 ?_ ?_ | with_reducible refine wkF fun _ _ _ => ?_ | with_reducible intro _ | refine Calling.eq (rdigit_c) ?_ | exact ag | fail))
        exact fin0
    · have h1 : decide ((p : Int) < s.size) = false := by simp; omega
      rw [verFrom_end s f p n hp] at hr
      rw [← hr]
      clear hr next
      (repeat' (first | refine wk ?_ | refine wk2 ?_ ?_ | with_reducible refine wkF fun _ _ _ => ?_ | with_reducible intro _ | exact ag | fail))
      exact fin0
  · exact leK (Sub.refl _)
theorem cutA_few {s : ByteArray} (h : few s) : few (Nm.cutA s) := Nat.lt_of_le_of_lt (cutA_size s) h
theorem cutB_few {s : ByteArray} (h : few s) : few (cutB s) := Nat.lt_of_le_of_lt (cutB_size s) h
theorem rCheck_c {s : ByteArray} (hf : few s) : AC Tryd.prog 53 [.s (.string s)] H (fun r H' => r = .s (.int .i64 (chk s)) ∧ H' = H) := by
  refine AC.body Tryd.func53 rfl rfl (n := 26) (res := [.tmp 2]) rfl rfl (by simp) ?_
  simp only [ent]
  have S := fun H => rstem_c (H := H) (cutA_few hf)
  have V := fun H => rversion_c (H := H) (cutB_few hf).fits
  have R := fun H => rRunes_c (H := H) hf
  have P := fun H => rparts_c (H := H) hf.fits
  have hc : chk s = if stem (Nm.cutA s) && !(Nm.has s && (ver (cutB s) == 0)) then (if decide (24 < runes s) then 5 else 0) else 6 := by
    unfold chk okN
    have : decide (ver (cutB s) = 0) = (ver (cutB s) == 0) := by rw [Bool.eq_iff_iff]; simp
    rw [this]
    cases stem (Nm.cutA s) <;> cases Nm.has s <;> cases (ver (cutB s) == 0) <;> simp
  rw [hc]
  clear hc
  generalize stem (Nm.cutA s) = x1 at *
  generalize Nm.has s = x2 at *
  generalize hx3 : (ver (cutB s) == 0) = x3 at *
  generalize hx4 : decide (24 < runes s) = x4 at *
  cases x1 <;> cases x2 <;> cases x3 <;> cases x4
  all_goals
    simp only [Bool.true_and, Bool.false_and, Bool.not_true, Bool.not_false, Bool.false_eq_true, if_true, if_false]
    (repeat' (first | refine wk ?_ | refine wk2 ?_ ?_ | with_reducible refine wkF fun _ _ _ => ?_ | with_reducible intro _ | refine Calling.eq (P _) ?_ | refine Calling.eq (S _) ?_ | refine Calling.eq (V _) ?_ | refine Calling.eq (R _) ?_ | exact ag | fail))
    exact fin0
end Go.Abs
/- Words and instructions: what the references make. -/
namespace Go.Abs
set_option linter.unusedSimpArgs false
set_option linter.unusedVariables false
open Go.Proofs Go.Wd
set_option linter.unusedVariables false
set_option maxRecDepth 8000
variable {H : Heap}
theorem wu64 {x : Int} (h0 : 0 ≤ x) (h1 : x < 18446744073709551616) : IntKind.u64.wrap x = x := by rw [IntKind.wrap_u64]; omega
theorem rMay_c {a n : Nat} (h : a + n ≤ 32) : AC Tryd.prog 84 [.s (.int .i64 a), .s (.int .i64 n)] H (fun r H' => r = .s (.bool true) ∧ H' = H) := by
  refine AC.body Tryd.func84 rfl rfl (n := 21) (res := [.tmp 4]) rfl rfl (by simp) ?_
  simp only [ent]
  have h1 : (a : Int) ≤ 32 := by omega
  have hw : IntKind.i64.wrap (32 - (a : Int)) = 32 - a := wi64 (by omega) (by omega)
  have h2 : (n : Int) ≤ 32 - a := by omega
  (repeat' (first | refine wk ?_ | refine wk2 ?_ ?_ | with_reducible refine wkF fun _ _ _ => ?_ | with_reducible intro _ | exact ag | fail))
  exact fin0
theorem rbit_c {w i : Nat} (hw : w < 2 ^ 32) (hi : i < 32) : AC Tryd.prog 85 [.s (.int .u32 w), .s (.int .i64 i)] H (fun r H' => r = .s (.int .u32 (w.testBit i).toNat) ∧ H' = H) := by
  refine AC.body Tryd.func85 rfl rfl (n := 10) (res := [.tmp 4]) rfl rfl (by simp) ?_
  simp only [ent]
  have e0 : IntKind.u64.wrap (i : Int) = i := wu64 (by omega) (by omega)
  have e1 := wshr (a := w) (n := i) (by omega)
  have e2 := and_nat _ 1 (shr_lt i hw) (by decide)
  rw [bit_one] at e2
  simp only [Int.cast_ofNat_Int] at e2
  (repeat' (first | refine wk ?_ | refine wk2 ?_ ?_ | with_reducible refine wkF fun _ _ _ => ?_ | with_reducible intro _ | exact ag | fail))
  exact fin0
/-- One bit more of a number. -/
theorem mod_step (x i : Nat) : x % 2 ^ (i + 1) = x % 2 ^ i ||| ((x.testBit i).toNat <<< i) := by
  refine Nat.eq_of_testBit_eq fun j => ?_
  rw [put_bit _ i _ j (Nat.mod_lt _ (Nat.two_pow_pos i)), Nat.testBit_mod_two_pow, Nat.testBit_mod_two_pow]
  by_cases hj : j = i
  · subst hj; simp
  · rw [if_neg hj]
    by_cases h : j < i
    · rw [decide_eq_true h, decide_eq_true (show j < i + 1 by omega)]
    · rw [decide_eq_false h, decide_eq_false (show ¬ j < i + 1 by omega)]
theorem put_one (x i : Nat) (hi : i < 32) (b : Bool) (hb : x.testBit i = b) : Go.bits .or .u32 ((x % 2 ^ i : Nat) : Int) (shlK .u32 ((b.toNat : Nat) : Int) (i : Nat)) = ((x % 2 ^ (i + 1) : Nat) : Int) := by
  subst hb
  have hp : 2 ^ i < 2 ^ 32 := Nat.pow_lt_pow_right (by decide) hi
  have h1 : x % 2 ^ i < 2 ^ 32 := Nat.lt_trans (Nat.mod_lt _ (Nat.two_pow_pos i)) hp
  have : (x.testBit i).toNat <<< i < 2 ^ 32 := by
    rw [Nat.shiftLeft_eq]
    cases x.testBit i <;> simp <;> omega
  rw [wshl (by omega), or_nat _ _ h1 (Nat.mod_lt _ (by decide)), Nat.mod_eq_of_lt this, ← mod_step]
theorem rbits_c {w a n : Nat} (hw : w < 2 ^ 32) (h : a + n ≤ 32) : AC Tryd.prog 70 [.s (.int .u32 w), .s (.int .i64 a), .s (.int .i64 n)] H (fun r H' => r = .s (.int .u32 (bitsN w a n : Nat)) ∧ H' = H) := by
  refine AC.body Tryd.func70 rfl rfl (n := 29) (res := [.tmp 6]) rfl rfl (by simp) ?_
  simp only [ent]
  (repeat' (first | refine wk ?_ | refine wk2 ?_ ?_ | with_reducible refine wkF fun _ _ _ => ?_ | with_reducible intro _ | refine Calling.eq (rMay_c h) ?_ | exact ag | fail))
  refine ARun.rounds (fun i : Nat => ⟨[(0, .s (.int .u32 w)), (1, .s (.int .i64 a)), (2, .s (.int .i64 n)), (7, .s (.int .u32 (bitsN w a n % 2 ^ i : Nat))), (8, .s (.int .i64 i))], H⟩) (fun i => n - i) (fun i => i ≤ n) ?_ 0 (by omega) ?_
  · intro i hi next
    by_cases hlt : i < n
    · have h1 : (i : Int) < n := by omega
      have e1 : IntKind.i64.wrap ((a : Int) + i) = ((a + i : Nat) : Int) := by rw [wi64 (by omega) (by omega)]; simp
      have e2 : IntKind.u64.wrap (i : Int) = i := wu64 (by omega) (by omega)
      have e3 := put_one (bitsN w a n) i (by omega) (w.testBit (a + i)) (by rw [bitsN_bit, decide_eq_true hlt]; rfl)
      have e4 : IntKind.i64.wrap ((i : Int) + 1) = ((i + 1 : Nat) : Int) := by rw [wi64 (by omega) (by omega)]; simp
      (repeat' (first | refine wk ?_ | refine wk2 ?_ ?_ | with_reducible refine wkF fun _ _ _ => ?_ | with_reducible intro _ | refine Calling.eq (rbit_c hw (i := a + i) (by omega)) ?_ | exact ag | fail))
      exact ARun.weaken (next.go (i + 1) (by omega) (by omega)) (leK (Sub.refl _))
    · have h1 : decide ((i : Int) < n) = false := by simp; omega
      have hn : bitsN w a n % 2 ^ i = bitsN w a n := by rw [show i = n by omega]; exact Nat.mod_eq_of_lt (bitsN_lt _ _ _)
      (repeat' (first | refine wk ?_ | refine wk2 ?_ ?_ | with_reducible refine wkF fun _ _ _ => ?_ | with_reducible intro _ | exact ag | fail))
      exact fin0
  · exact leK (Sub.refl _)
theorem rwith_c {w a n v : Nat} (hw : w < 2 ^ 32) (hv : v < 2 ^ 32) (h : a + n ≤ 32) : AC Tryd.prog 87 [.s (.int .u32 w), .s (.int .i64 a), .s (.int .i64 n), .s (.int .u32 v)] H (fun r H' => r = .s (.int .u32 (withN w a n v : Nat)) ∧ H' = H) := by
  refine AC.body Tryd.func87 rfl rfl (n := 49) (res := [.tmp 8]) rfl rfl (by simp) ?_
  simp only [ent]
  (repeat' (first | refine wk ?_ | refine wk2 ?_ ?_ | with_reducible refine wkF fun _ _ _ => ?_ | with_reducible intro _ | refine Calling.eq (rMay_c h) ?_ | exact ag | fail))
  refine ARun.rounds (fun i : Nat => ⟨[(0, .s (.int .u32 w)), (1, .s (.int .i64 a)), (2, .s (.int .i64 n)), (3, .s (.int .u32 v)), (9, .s (.int .u32 (withN w a n v % 2 ^ i : Nat))), (10, .s (.int .i64 i))], H⟩) (fun i => 32 - i) (fun i => i ≤ 32) ?_ 0 (by omega) ?_
  · intro i hi next
    by_cases hlt : i < 32
    · have h1 : (i : Int) < 32 := by omega
      have e1 : IntKind.i64.wrap ((a : Int) + n) = ((a + n : Nat) : Int) := by rw [wi64 (by omega) (by omega)]; simp
      have e2 : IntKind.u64.wrap (i : Int) = i := wu64 (by omega) (by omega)
      have e4 : IntKind.i64.wrap ((i : Int) + 1) = ((i + 1 : Nat) : Int) := by rw [wi64 (by omega) (by omega)]; simp
      have hbit := withN_bit w a n v i hw h hlt
      by_cases hin : a ≤ i ∧ i < a + n
      · rw [if_pos hin] at hbit
        have h2 : (a : Int) ≤ i := by omega
        have h3 : (i : Int) < ((a + n : Nat) : Int) := by omega
        have e5 : IntKind.i64.wrap ((i : Int) - a) = ((i - a : Nat) : Int) := by rw [wi64 (by omega) (by omega)]; omega
        have e3 := put_one (withN w a n v) i hlt _ hbit
        clear hbit hin
        (repeat' (first | refine wk ?_ | refine wk2 ?_ ?_ | with_reducible refine wkF fun _ _ _ => ?_ | with_reducible intro _ | refine Calling.eq (rbit_c hv (i := i - a) (by omega)) ?_ | exact ag | fail))
        exact ARun.weaken (next.go (i + 1) (by omega) (by omega)) (leK (Sub.refl _))
      · rw [if_neg hin] at hbit
        have e3 := put_one (withN w a n v) i hlt _ hbit
        clear hbit
        by_cases h2 : a ≤ i
        · have h2' : (a : Int) ≤ i := by omega
          have h3 : decide ((i : Int) < ((a + n : Nat) : Int)) = false := by simp; omega
          clear hin h2
          (repeat' (first | refine wk ?_ | refine wk2 ?_ ?_ | with_reducible refine wkF fun _ _ _ => ?_ | with_reducible intro _ | refine Calling.eq (rbit_c hw (i := i) (by omega)) ?_ | exact ag | fail))
          exact ARun.weaken (next.go (i + 1) (by omega) (by omega)) (leK (Sub.refl _))
        · have h2' : decide ((a : Int) ≤ i) = false := by simp; omega
          clear hin h2
          (repeat' (first | refine wk ?_ | refine wk2 ?_ ?_ | with_reducible refine wkF fun _ _ _ => ?_ | with_reducible intro _ | refine Calling.eq (rbit_c hw (i := i) (by omega)) ?_ | exact ag | fail))
          exact ARun.weaken (next.go (i + 1) (by omega) (by omega)) (leK (Sub.refl _))
    · have h1 : decide ((i : Int) < 32) = false := by simp; omega
      have hn : withN w a n v % 2 ^ i = withN w a n v := by rw [show i = 32 by omega]; exact Nat.mod_eq_of_lt (withN_lt _ _ _ _)
      (repeat' (first | refine wk ?_ | refine wk2 ?_ ?_ | with_reducible refine wkF fun _ _ _ => ?_ | with_reducible intro _ | exact ag | fail))
      exact fin0
  · exact leK (Sub.refl _)
theorem rcut_c {v : Int} : AC Tryd.prog 88 [.s (.int .i32 v), .s (.int .i64 21)] H (fun r H' => r = .s (.int .u32 (cutN v : Nat)) ∧ H' = H) := by
  refine AC.body Tryd.func88 rfl rfl (n := 12) (res := [.tmp 4]) rfl rfl (by simp) ?_
  simp only [ent]
  have e : IntKind.u32.wrap v = (((v % 4294967296).toNat : Nat) : Int) := by rw [IntKind.wrap_u32]; omega
  have B := fun H => rbits_c (H := H) (w := (v % 4294967296).toNat) (a := 0) (n := 21) (by omega) (by decide)
  rw [cut_bits] at B
  simp only [Int.cast_ofNat_Int] at B
  (repeat' (first | refine wk ?_ | refine wk2 ?_ ?_ | with_reducible refine wkF fun _ _ _ => ?_ | with_reducible intro _ | refine Doing.eq (oc_min) ?_ | refine Calling.eq (B _) ?_ | exact ag | fail))
  exact fin0
theorem rsigned_c {w : Nat} (hw : w < 2 ^ 32) : AC Tryd.prog 72 [.s (.int .u32 w), .s (.int .i64 21)] H (fun r H' => r = .s (.int .i32 (signN w)) ∧ H' = H) := by
  refine AC.body Tryd.func72 rfl rfl (n := 28) (res := [.tmp 4]) rfl rfl (by simp) ?_
  simp only [ent]
  have B := fun H => rbits_c (H := H) (w := w) (a := 0) (n := 21) hw (by decide)
  have T := fun H => rbit_c (H := H) (w := w) (i := 20) hw (by decide)
  rw [bitsN_mod] at B
  rw [bit20] at T
  simp only [Int.cast_ofNat_Int] at B T
  have e0 : IntKind.i64.wrap (21 - 1) = 20 := rfl
  have e1 : IntKind.i64.wrap ((w % 2 ^ 21 : Nat) : Int) = ((w % 2 ^ 21 : Nat) : Int) := wi64 (by omega) (by omega)
  have e2 : IntKind.u64.wrap 21 = 21 := rfl
  have e3 : shlK .i64 1 21 = 2097152 := rfl
  by_cases h : w % 2097152 < 1048576
  · have h1 : (((w % 2097152 / 1048576 : Nat) : Int) == 1) = false := by simp; omega
    have hs : IntKind.i32.wrap ((w % 2 ^ 21 : Nat) : Int) = signN w := by unfold signN; rw [if_pos h, IntKind.wrap_i32]; omega
    clear h
    (repeat' (first | refine wk ?_ | refine wk2 ?_ ?_ | with_reducible refine wkF fun _ _ _ => ?_ | with_reducible intro _ | refine Calling.eq (B _) ?_ | refine Calling.eq (T _) ?_ | exact ag | fail))
    exact fin0
  · have h1 : (((w % 2097152 / 1048576 : Nat) : Int) == 1) = true := by simp; omega
    have hs : IntKind.i32.wrap (IntKind.i64.wrap (((w % 2 ^ 21 : Nat) : Int) - 2097152)) = signN w := by unfold signN; rw [if_neg h, wi64 (by omega) (by omega), IntKind.wrap_i32]; omega
    clear h
    (repeat' (first | refine wk ?_ | refine wk2 ?_ ?_ | with_reducible refine wkF fun _ _ _ => ?_ | with_reducible intro _ | refine Calling.eq (B _) ?_ | refine Calling.eq (T _) ?_ | exact ag | fail))
    exact fin0
theorem rfits_c {v : Int} : AC Tryd.prog 93 [.s (.int .i64 v), .s (.int .i64 21)] H (fun r H' => r = .s (.bool (fits21 v)) ∧ H' = H) := by
  refine AC.body Tryd.func93 rfl rfl (n := 26) (res := [.tmp 4]) rfl rfl (by simp) ?_
  simp only [ent]
  have e0 : IntKind.i64.wrap (21 - 1) = 20 := rfl
  have e2 : IntKind.u64.wrap 20 = 20 := rfl
  have e3 : shlK .i64 1 20 = 1048576 := rfl
  have e4 : IntKind.i64.wrap (0 - 1048576) = -1048576 := rfl
  have e5 : IntKind.i64.wrap (1048576 - 1) = 1048575 := rfl
  (repeat' (first | refine wk ?_ | refine wk2 ?_ ?_ | with_reducible refine wkF fun _ _ _ => ?_ | with_reducible intro _ | exact ag | fail))
  all_goals
    refine fin1 ⟨?_, rfl⟩
    simp only [resV, fits21]
    simp_all
    try (rw [Bool.eq_iff_iff]; simp)
    try omega
end Go.Abs
/- Instructions: what the references make. -/
namespace Go.Abs
set_option linter.unusedSimpArgs false
set_option linter.unusedVariables false
open Go.Proofs Go.Wd
set_option linter.unusedVariables false
set_option maxRecDepth 8000
variable {H : Heap}
theorem ruses_c {o : Nat} : AC Tryd.prog 71 [.s (.int .u8 o)] H (fun r H' => r = .agg (b4 (usesR o)) ∧ H' = H) := by
  refine AC.body Tryd.func71 rfl rfl (n := 33) (res := [.cell 2 94]) rfl rfl (by simp) ?_
  simp only [ent]
  have hc := op_cases (o : Int)
  have h0 : (0 : Int) ≤ o := Int.natCast_nonneg _
  generalize (o : Int) = z at hc h0
  rcases hc with h | h | h | h | h | h | h | h | h | h | h | h | h | h | h | h | h | h | h | h | h | h | h | h
  case inr.inr.inr.inr.inr.inr.inr.inr.inr.inr.inr.inr.inr.inr.inr.inr.inr.inr.inr.inr.inr.inr.inr =>
    have e : ∀ k : Int, k ≤ 21 → (z == k) = false := fun k hk => by simp; omega
    have q2 := e 2 (by decide)
    have q3 := e 3 (by decide)
    have q4 := e 4 (by decide)
    have q5 := e 5 (by decide)
    have q6 := e 6 (by decide)
    have q7 := e 7 (by decide)
    have q8 := e 8 (by decide)
    have q9 := e 9 (by decide)
    have q10 := e 10 (by decide)
    have q11 := e 11 (by decide)
    have q12 := e 12 (by decide)
    have q13 := e 13 (by decide)
    have q14 := e 14 (by decide)
    have q15 := e 15 (by decide)
    have q16 := e 16 (by decide)
    have q17 := e 17 (by decide)
    have q19 := e 19 (by decide)
    have q21 := e 21 (by decide)
    have hu : usesR z = (false, false, false, false) := by unfold usesR; rw [if_neg (by omega), if_neg (by omega), if_neg (by omega), if_neg (by omega), if_neg (by omega)]
    rw [hu, b4_mk]
    clear hu e
    (repeat' (first | refine wk ?_ | refine wk2 ?_ ?_ | with_reducible refine wkF fun _ _ _ => ?_ | with_reducible intro _ | exact ag | fail))
    exact fin0
  case inl => omega
  all_goals
    subst h
    (repeat' (first | refine wk ?_ | refine wk2 ?_ ?_ | with_reducible refine wkF fun _ _ _ => ?_ | with_reducible intro _ | exact ag | fail))
    exact fin0
set_option maxHeartbeats 2000000 in
theorem rCheckI_c {x : Ins} (hx : x.ok) : AC Tryd.prog 86 [.agg x.enc] H (fun r H' => r = .s (.int .i64 x.chk) ∧ H' = H) := by
  refine AC.body Tryd.func86 rfl rfl (n := 95) (res := [.tmp 2]) rfl rfl (by simp) ?_
  simp only [ent]
  obtain ⟨o, d, a, b, i⟩ := x
  simp only [Ins.enc_def, Ins.ok] at hx ⊢
  obtain ⟨_, _, _, _, h5, h6⟩ := hx
  have hw : IntKind.i64.wrap i = i := wi64 (by omega) (by omega)
  have hf : ∀ H : Heap, AC Tryd.prog 93 [.s (.int .i64 i), .s (.int .i64 21)] H (fun r H' => r = .s (.bool (fits21 i)) ∧ H' = H) := fun H => rfits_c
  have hu : usesR o = ((usesR o).1, (usesR o).2.1, (usesR o).2.2.1, (usesR o).2.2.2) := rfl
  generalize hu1 : (usesR o).1 = u1 at hu
  generalize hu2 : (usesR o).2.1 = u2 at hu
  generalize hu3 : (usesR o).2.2.1 = u3 at hu
  generalize hu4 : (usesR o).2.2.2 = u4 at hu
  have hU : ∀ H : Heap, AC Tryd.prog 71 [.s (.int .u8 o)] H (fun r H' => r = .agg [.s (.bool u1), .s (.bool u2), .s (.bool u3), .s (.bool u4)] ∧ H' = H) := fun H => by have := ruses_c (H := H) (o := o); rw [hu] at this; exact this
  clear hu
  (repeat' (first | refine wk ?_ | refine wk2 ?_ ?_ | with_reducible refine wkF fun _ _ _ => ?_ | with_reducible intro _ | refine Calling.eq (hU _) ?_ | refine Calling.eq (hf _) ?_ | exact ag | fail))
  all_goals
    refine fin1 ⟨?_, rfl⟩
    clear hU hf
    simp only [resV, Ins.chk, checkR, badR, regR, hu1, hu2, hu3, hu4]
    simp_all
    try omega
theorem enc_low {o d a b : Nat} {i : Int} (low : Nat) (hl : low < 2 ^ 21) (e : cutN i ||| b = low) : withN (withN (withN (withN 0 27 5 o) 24 3 d) 21 3 a) 0 21 low = encN o d a b i := by
  unfold encN
  rw [e]
  have hl2 : low < 2 ^ 32 := by omega
  refine word_ext (withN_lt _ _ _ _) (withN_lt _ _ _ _) fun j hj => ?_
  rw [withN_bit _ _ _ _ _ (withN_lt _ _ _ _) (by decide) hj, withN_bit _ _ _ _ _ (withN_lt _ _ _ _) (by decide) hj, withN_bit _ _ _ _ _ (withN_lt _ _ _ _) (by decide) hj, withN_bit _ _ _ _ _ (by decide) (by decide) hj,
    withN_bit _ _ _ _ _ (withN_lt _ _ _ _) (by decide) hj, withN_bit _ _ _ _ _ (withN_lt _ _ _ _) (by decide) hj, withN_bit _ _ _ _ _ hl2 (by decide) hj]
  repeat' split
  all_goals first | rfl | (exfalso; omega) | (simp; done) | skip
  all_goals (have hz := bit_out hl (i := j) (by omega); simp [hz])
theorem rEncode_c {x : Ins} (hx : x.ok) : AC Tryd.prog 73 [.agg x.enc] H (fun r H' => r = .tup [.s (.int .u32 (x.word : Nat)), .s (.int .i64 x.chk)] ∧ H' = H) := by
  have hk := fun H => rCheckI_c (H := H) hx
  by_cases hc : x.chk = 0
  · have hw : x.word = encN x.o x.d x.a x.b x.i := by unfold Ins.word; rw [if_pos hc]
    rw [hw, hc]
    obtain ⟨o, d, a, b, i⟩ := x
    obtain ⟨z1, z2, z3, z4, z5, z6, z7⟩ := check_zero (o := o) (d := d) (a := a) (b := b) (i := i) hc
    simp only [Ins.enc_def, Ins.ok, hc] at hx hk ⊢
    obtain ⟨h1, h2, h3, h4, h5, h6⟩ := hx
    clear hw hc
    have e1 := w8to32 h1
    have e2 := w8to32 h2
    have e3 := w8to32 h3
    have e4 := w8to32 h4
    have c1 := cutN_lt i
    have A1 := fun H => rwith_c (H := H) (w := 0) (a := 27) (n := 5) (v := o) (by decide) (by omega) (by decide)
    have A2 := fun H => rwith_c (H := H) (w := withN 0 27 5 o) (a := 24) (n := 3) (v := d) (withN_lt _ _ _ _) (by omega) (by decide)
    have A3 := fun H => rwith_c (H := H) (w := withN (withN 0 27 5 o) 24 3 d) (a := 21) (n := 3) (v := a) (withN_lt _ _ _ _) (by omega) (by decide)
    have U := fun H => ruses_c (H := H) (o := o)
    have hu : usesR o = ((usesR o).1, (usesR o).2.1, (usesR o).2.2.1, (usesR o).2.2.2) := rfl
    cases hu3 : (usesR (o : Int)).2.2.1 with
    | true =>
      have hi0 : i = 0 := by
        rcases z5 with h | h
        · rw [usesB o hu3] at h; cases h
        · exact h
      have hb8 := (reg_lt (Int.natCast_nonneg b) z4).1
      have A4 := fun H => rwith_c (H := H) (w := withN (withN (withN 0 27 5 o) 24 3 d) 21 3 a) (a := 0) (n := 21) (v := b) (withN_lt _ _ _ _) (by omega) (by decide)
      rw [enc_low (o := o) (d := d) (a := a) (b := b) (i := i) b (by omega) (by rw [hi0]; simp [cutN])] at A4
      rw [hu3] at hu
      generalize (usesR (o : Int)).1 = u1 at hu
      generalize (usesR (o : Int)).2.1 = u2 at hu
      generalize (usesR (o : Int)).2.2.2 = u4 at hu
      rw [hu] at U
      simp only [b4_mk, Int.cast_ofNat_Int] at U A1 A2 A3 A4
      clear z1 z2 z3 z4 z5 z6 z7 hu hu3 hi0
      refine AC.body Tryd.func73 rfl rfl (n := 39) (res := [.tmp 2, .tmp 3]) rfl rfl (by simp) ?_
      simp only [ent]
      (repeat' (first | refine wk ?_ | refine wk2 ?_ ?_ | with_reducible refine wkF fun _ _ _ => ?_ | with_reducible intro _ | refine Calling.eq (hk _) ?_ | refine Calling.eq (A1 _) ?_ | refine Calling.eq (A2 _) ?_ | refine Calling.eq (A3 _) ?_ | refine Calling.eq (U _) ?_ | refine Calling.eq (A4 _) ?_ | exact ag | fail))
      exact fin0
    | false =>
      have hb0 : b = 0 := by have := (reg_lt (Int.natCast_nonneg b) z4).2 hu3; omega
      have A4 := fun H => rwith_c (H := H) (w := withN (withN (withN 0 27 5 o) 24 3 d) 21 3 a) (a := 0) (n := 21) (v := cutN i) (withN_lt _ _ _ _) (by omega) (by decide)
      rw [enc_low (i := i) (b := b) (cutN i) c1 (by rw [hb0]; simp)] at A4
      rw [hu3] at hu
      generalize (usesR (o : Int)).1 = u1 at hu
      generalize (usesR (o : Int)).2.1 = u2 at hu
      generalize (usesR (o : Int)).2.2.2 = u4 at hu
      rw [hu] at U
      simp only [b4_mk, Int.cast_ofNat_Int] at U A1 A2 A3 A4
      clear z1 z2 z3 z4 z5 z6 z7 hu hu3 hb0
      refine AC.body Tryd.func73 rfl rfl (n := 39) (res := [.tmp 2, .tmp 3]) rfl rfl (by simp) ?_
      simp only [ent]
      (repeat' (first | refine wk ?_ | refine wk2 ?_ ?_ | with_reducible refine wkF fun _ _ _ => ?_ | with_reducible intro _ | refine Calling.eq (hk _) ?_ | refine Calling.eq (A1 _) ?_ | refine Calling.eq (A2 _) ?_ | refine Calling.eq (A3 _) ?_ | refine Calling.eq (U _) ?_ | refine Calling.eq (rcut_c) ?_ | refine Calling.eq (A4 _) ?_ | exact ag | fail))
      exact fin0
  · have hw : x.word = 0 := by unfold Ins.word; rw [if_neg hc]
    rw [hw]
    have hb : (x.chk != 0) = true := by simpa using hc
    simp only [Ins.enc_def] at hk ⊢
    refine AC.body Tryd.func73 rfl rfl (n := 39) (res := [.tmp 2, .tmp 3]) rfl rfl (by simp) ?_
    simp only [ent]
    (repeat' (first | refine wk ?_ | refine wk2 ?_ ?_ | with_reducible refine wkF fun _ _ _ => ?_ | with_reducible intro _ | refine Calling.eq (hk _) ?_ | exact ag | fail))
    exact fin0
theorem rDecode_c {w : Nat} (hw : w < 2 ^ 32) : AC Tryd.prog 55 [.s (.int .u32 w)] H (fun r H' => r = .tup [.agg (dec w).enc, .s (.int .i64 (decE w))] ∧ H' = H) := by
  have B1 := fun H => rbits_c (H := H) (w := w) (a := 27) (n := 5) hw (by decide)
  have B2 := fun H => rbits_c (H := H) (w := w) (a := 24) (n := 3) hw (by decide)
  have B3 := fun H => rbits_c (H := H) (w := w) (a := 21) (n := 3) hw (by decide)
  have B4 := fun H => rbits_c (H := H) (w := w) (a := 0) (n := 3) hw (by decide)
  have S := fun H => rsigned_c (H := H) hw
  simp only [Int.cast_ofNat_Int] at B1 B2 B3 B4
  have e1 := bits_c' hw (a := 27) (n := 5) (by decide) (by decide)
  have e2 := bits_c' hw (a := 24) (n := 3) (by decide) (by decide)
  have e3 := bits_c' hw (a := 21) (n := 3) (by decide) (by decide)
  have e4 := bits_c' hw (a := 0) (n := 3) (by decide) (by decide)
  have hp := parts_ok w
  have E := fun H => rEncode_c (H := H) hp
  have U := fun H => ruses_c (H := H) (o := bitsN w 27 5)
  have hi : ∀ b : Bool, insOk w = b → dec w = (if b = true then parts w else Ins.zero) ∧ decE w = (if b = true then 0 else 10) := fun b h => by unfold dec decE; rw [h]; exact ⟨rfl, rfl⟩
  have ho : insOk w = (decide ((parts w).chk = 0) && (parts w).word == w) := rfl
  have hu : usesR ((bitsN w 27 5 : Nat) : Int) = ((usesR ((bitsN w 27 5 : Nat) : Int)).1, (usesR ((bitsN w 27 5 : Nat) : Int)).2.1, (usesR ((bitsN w 27 5 : Nat) : Int)).2.2.1, (usesR ((bitsN w 27 5 : Nat) : Int)).2.2.2) := rfl
  cases hu3 : (usesR ((bitsN w 27 5 : Nat) : Int)).2.2.1 with
  | true =>
    have hpe : parts w = ⟨bitsN w 27 5, bitsN w 24 3, bitsN w 21 3, bitsN w 0 3, 0⟩ := by unfold parts iN opN; rw [hu3]; rfl
    rw [hu3] at hu
    generalize (usesR ((bitsN w 27 5 : Nat) : Int)).1 = u1 at hu
    generalize (usesR ((bitsN w 27 5 : Nat) : Int)).2.1 = u2 at hu
    generalize (usesR ((bitsN w 27 5 : Nat) : Int)).2.2.2 = u4 at hu
    rw [hu] at U
    simp only [b4_mk] at U
    generalize hk : (parts w).chk = k at E ho
    generalize hv : (parts w).word = v at E ho
    rw [hpe, Ins.enc_def] at E
    simp only [] at E
    clear hk hv hp hu3 hu
    by_cases hk0 : k = 0
    · subst hk0
      by_cases hv0 : v = w
      · subst hv0
        obtain ⟨h1, h2⟩ := hi true (by simpa using ho)
        rw [if_pos rfl, hpe] at h1
        rw [if_pos rfl] at h2
        clear ho hi hpe
        rw [h1, h2, Ins.enc_def]
        clear h1 h2
        refine AC.body Tryd.func55 rfl rfl (n := 42) (res := [.cell 2 47, .tmp 3]) rfl rfl (by simp) ?_
        simp only [ent]
        (repeat' (first | refine wk ?_ | refine wk2 ?_ ?_ | with_reducible refine wkF fun _ _ _ => ?_ | with_reducible intro _ | refine Calling.eq (B1 _) ?_ | refine Calling.eq (B2 _) ?_ | refine Calling.eq (B3 _) ?_ | refine Calling.eq (B4 _) ?_ | refine Calling.eq (S _) ?_ | refine Calling.eq (U _) ?_ | refine Calling.eq (E _) ?_ | exact ag | fail))
        exact fin0
      · have hb : (((v : Nat) : Int) != (w : Int)) = true := by simp; omega
        obtain ⟨h1, h2⟩ := hi false (by rw [ho]; simp [hv0])
        rw [if_neg (by simp)] at h1 h2
        clear ho hi hpe
        rw [h1, h2]
        clear h1 h2
        refine AC.body Tryd.func55 rfl rfl (n := 42) (res := [.cell 2 47, .tmp 3]) rfl rfl (by simp) ?_
        simp only [ent]
        (repeat' (first | refine wk ?_ | refine wk2 ?_ ?_ | with_reducible refine wkF fun _ _ _ => ?_ | with_reducible intro _ | refine Calling.eq (B1 _) ?_ | refine Calling.eq (B2 _) ?_ | refine Calling.eq (B3 _) ?_ | refine Calling.eq (B4 _) ?_ | refine Calling.eq (S _) ?_ | refine Calling.eq (U _) ?_ | refine Calling.eq (E _) ?_ | exact ag | fail))
        exact fin0
    · have hb : (k != 0) = true := by simpa using hk0
      obtain ⟨h1, h2⟩ := hi false (by rw [ho]; simp [hk0])
      rw [if_neg (by simp)] at h1 h2
      clear ho hi hpe
      rw [h1, h2]
      clear h1 h2
      refine AC.body Tryd.func55 rfl rfl (n := 42) (res := [.cell 2 47, .tmp 3]) rfl rfl (by simp) ?_
      simp only [ent]
      (repeat' (first | refine wk ?_ | refine wk2 ?_ ?_ | with_reducible refine wkF fun _ _ _ => ?_ | with_reducible intro _ | refine Calling.eq (B1 _) ?_ | refine Calling.eq (B2 _) ?_ | refine Calling.eq (B3 _) ?_ | refine Calling.eq (B4 _) ?_ | refine Calling.eq (S _) ?_ | refine Calling.eq (U _) ?_ | refine Calling.eq (E _) ?_ | exact ag | fail))
      exact fin0
  | false =>
    have hpe : parts w = ⟨bitsN w 27 5, bitsN w 24 3, bitsN w 21 3, 0, signN w⟩ := by unfold parts iN opN; rw [hu3]; rfl
    rw [hu3] at hu
    generalize (usesR ((bitsN w 27 5 : Nat) : Int)).1 = u1 at hu
    generalize (usesR ((bitsN w 27 5 : Nat) : Int)).2.1 = u2 at hu
    generalize (usesR ((bitsN w 27 5 : Nat) : Int)).2.2.2 = u4 at hu
    rw [hu] at U
    simp only [b4_mk] at U
    generalize hk : (parts w).chk = k at E ho
    generalize hv : (parts w).word = v at E ho
    rw [hpe, Ins.enc_def] at E
    simp only [Int.cast_ofNat_Int] at E
    clear hk hv hp hu3 hu
    by_cases hk0 : k = 0
    · subst hk0
      by_cases hv0 : v = w
      · subst hv0
        obtain ⟨h1, h2⟩ := hi true (by simpa using ho)
        rw [if_pos rfl, hpe] at h1
        rw [if_pos rfl] at h2
        clear ho hi hpe
        rw [h1, h2, Ins.enc_def]
        clear h1 h2
        refine AC.body Tryd.func55 rfl rfl (n := 42) (res := [.cell 2 47, .tmp 3]) rfl rfl (by simp) ?_
        simp only [ent]
        (repeat' (first | refine wk ?_ | refine wk2 ?_ ?_ | with_reducible refine wkF fun _ _ _ => ?_ | with_reducible intro _ | refine Calling.eq (B1 _) ?_ | refine Calling.eq (B2 _) ?_ | refine Calling.eq (B3 _) ?_ | refine Calling.eq (B4 _) ?_ | refine Calling.eq (S _) ?_ | refine Calling.eq (U _) ?_ | refine Calling.eq (E _) ?_ | exact ag | fail))
        exact fin0
      · have hb : (((v : Nat) : Int) != (w : Int)) = true := by simp; omega
        obtain ⟨h1, h2⟩ := hi false (by rw [ho]; simp [hv0])
        rw [if_neg (by simp)] at h1 h2
        clear ho hi hpe
        rw [h1, h2]
        clear h1 h2
        refine AC.body Tryd.func55 rfl rfl (n := 42) (res := [.cell 2 47, .tmp 3]) rfl rfl (by simp) ?_
        simp only [ent]
        (repeat' (first | refine wk ?_ | refine wk2 ?_ ?_ | with_reducible refine wkF fun _ _ _ => ?_ | with_reducible intro _ | refine Calling.eq (B1 _) ?_ | refine Calling.eq (B2 _) ?_ | refine Calling.eq (B3 _) ?_ | refine Calling.eq (B4 _) ?_ | refine Calling.eq (S _) ?_ | refine Calling.eq (U _) ?_ | refine Calling.eq (E _) ?_ | exact ag | fail))
        exact fin0
    · have hb : (k != 0) = true := by simpa using hk0
      obtain ⟨h1, h2⟩ := hi false (by rw [ho]; simp [hk0])
      rw [if_neg (by simp)] at h1 h2
      clear ho hi hpe
      rw [h1, h2]
      clear h1 h2
      refine AC.body Tryd.func55 rfl rfl (n := 42) (res := [.cell 2 47, .tmp 3]) rfl rfl (by simp) ?_
      simp only [ent]
      (repeat' (first | refine wk ?_ | refine wk2 ?_ ?_ | with_reducible refine wkF fun _ _ _ => ?_ | with_reducible intro _ | refine Calling.eq (B1 _) ?_ | refine Calling.eq (B2 _) ?_ | refine Calling.eq (B3 _) ?_ | refine Calling.eq (B4 _) ?_ | refine Calling.eq (S _) ?_ | refine Calling.eq (U _) ?_ | refine Calling.eq (E _) ?_ | exact ag | fail))
      exact fin0
end Go.Abs
/- The document's answer about modules: sizes, names, texts that stand twice, words. -/
namespace Go.Abs
set_option linter.unusedSimpArgs false
set_option linter.unusedVariables false
open Go.Proofs Go.Nm Go.Wd
set_option linter.unusedVariables false
set_option maxRecDepth 8000
variable {H : Heap}
theorem rlong_c (l : List ByteArray) (hl : l.length < 4611686018427387904) (H : Heap) : AC Tryd.prog 52 [.vs 1 (l.map s1)] H (fun r H' => r = .s (.bool (decide (0 ≤ fi longB l))) ∧ H' = H) := by
  refine AC.body Tryd.func52 rfl rfl (n := 16) (res := [.tmp 2]) rfl rfl (by simp) ?_
  simp only [ent]
  (repeat' (first | refine wk ?_ | refine wk2 ?_ ?_ | with_reducible refine wkF fun _ _ _ => ?_ | with_reducible intro _ | exact ag | fail))
  refine ARun.rounds (fun i : Nat => ⟨[(0, .vs 1 (l.map s1)), (3, .s (.int .i64 i))], H⟩) (fun i => l.length - i) (fun i => i ≤ l.length ∧ noneB longB l i) ?_ 0 ⟨by omega, .zero⟩ ?_
  · rintro i ⟨hi, hno⟩ next
    replace hno := later hno
    by_cases hlt : i < l.length
    · have h1 : (i : Int) < l.length := by omega
      have h2 : (0 : Int) ≤ i := by omega
      obtain ⟨x, hx⟩ := at_ hlt
      have hx1 := vget s1 hx
      rw [s1_def] at hx1
      have hw := w64s (i := i) (by omega)
      cases hb : longB x with
      | true =>
        have hf := fi_some hx hb hno.go
        rw [hf, show decide ((0 : Int) ≤ (i : Int)) = true by simp]
        unfold longB at hb
        clear hx next hf
        (repeat' (first | refine wk ?_ | refine wk2 ?_ ?_ | with_reducible refine wkF fun _ _ _ => ?_ | with_reducible intro _ | exact ag | fail))
        exact fin0
      | false =>
        have nx := next.go (i + 1) ⟨by omega, hno.go.succ hx hb⟩ (by omega)
        unfold longB at hb
        clear hx next
        (repeat' (first | refine wk ?_ | refine wk2 ?_ ?_ | with_reducible refine wkF fun _ _ _ => ?_ | with_reducible intro _ | exact ag | fail))
        exact ARun.weaken nx (leK (Sub.refl _))
    · have h1 : decide ((i : Int) < l.length) = false := by simp; omega
      have hA1 : fi longB l = -1 := fi_end (by omega) hno.go
      rw [hA1]
      clear next hA1
      (repeat' (first | refine wk ?_ | refine wk2 ?_ ?_ | with_reducible refine wkF fun _ _ _ => ?_ | with_reducible intro _ | exact ag | fail))
      exact fin0
  · exact leK (Sub.refl _)
theorem rin_c (r : Rlc) (hr : (r.k : Int) ≤ 7) (H : Heap) : AC Tryd.prog 56 [.s (.int .u8 r.k)] H (fun x H' => x = .s (.bool r.spot.1) ∧ H' = H) := by
  refine AC.body Tryd.func56 rfl rfl (n := 21) (res := [.tmp 2]) rfl rfl (by simp) ?_
  simp only [ent]
  simp only [Rlc.spot]
  (repeat' (first | refine wk ?_ | refine wk2 ?_ ?_ | with_reducible refine wkF fun _ _ _ => ?_ | with_reducible intro _ | exact ag | fail))
  all_goals
    refine fin1 ⟨?_, rfl⟩
    simp only [resV, dataK]
    simp_all
    try (rw [Bool.eq_iff_iff]; simp; omega)
def Mod.big (m : Mod) : Bool := decide ((8 : Int) < m.ex.length) || (decide ((16 : Int) < m.im.length) || (decide ((512 : Int) < m.co.length) || (decide ((128 : Int) < m.da.length) || decide ((256 : Int) < m.re.length))))
theorem obj_alt (m : Mod) : m.obj = if m.big then 5 else if longB m.nm || (decide (0 ≤ fi longB m.ex) || decide (0 ≤ fi longB m.im)) then 5 else if decide (0 ≤ fi kindB m.re) then 2 else 0 := by
  unfold Mod.obj Mod.big
  generalize decide ((8 : Int) < m.ex.length) = a
  generalize decide ((16 : Int) < m.im.length) = b
  generalize decide ((512 : Int) < m.co.length) = c
  generalize decide ((128 : Int) < m.da.length) = d
  generalize decide ((256 : Int) < m.re.length) = e
  cases a <;> cases b <;> cases c <;> cases d <;> cases e <;> rfl
theorem r10Check_c (m : Mod) (hm : m.ok) (H : Heap) : AC Tryd.prog 24 [m.tv] H (fun r H' => r = .s (.int .i64 m.obj) ∧ H' = H) := by
  refine AC.body Tryd.func24 rfl rfl (n := 60) (res := [.tmp 2]) rfl rfl (by simp) ?_
  simp only [ent]
  have hlre := hm.lre
  have E := fun H => rlong_c m.ex hm.lex H
  have I := fun H => rlong_c m.im hm.lim H
  have ho := obj_alt m
  replace ho := later ho
  clear hm
  simp only [Mod.tv_def]
  cases q0 : m.big with
  | true =>
    have ht : m.obj = 5 := by rw [ho.go, q0]; rfl
    rw [ht]
    unfold Mod.big at q0
    clear ht
    (repeat' (first | refine wk ?_ | refine wk2 ?_ ?_ | with_reducible refine wkF fun _ _ _ => ?_ | with_reducible intro _ | refine Calling.eq (E _) ?_ | refine Calling.eq (I _) ?_ | exact ag | fail))
    all_goals first | (exact fin0) | (exfalso; simp_all; done)
  | false =>
    have ho' := ho.go
    rw [q0, if_neg (by decide)] at ho'
    unfold Mod.big at q0
    simp only [Bool.or_eq_false_iff] at q0
    obtain ⟨a1, a2, a3, a4, a5⟩ := q0
    cases q1 : longB m.nm || (decide (0 ≤ fi longB m.ex) || decide (0 ≤ fi longB m.im)) with
    | true =>
      rw [q1, if_pos rfl] at ho'
      rw [ho']
      clear ho' ho
      unfold longB at q1
      (repeat' (first | refine wk ?_ | refine wk2 ?_ ?_ | with_reducible refine wkF fun _ _ _ => ?_ | with_reducible intro _ | refine Calling.eq (E _) ?_ | refine Calling.eq (I _) ?_ | exact ag | fail))
      all_goals first | (exact fin0) | (exfalso; unfold longB at *; simp_all; done)
    | false =>
      rw [q1, if_neg (by decide)] at ho'
      simp only [Bool.or_eq_false_iff] at q1
      obtain ⟨b1, b2, b3⟩ := q1
      rw [b2] at E
      rw [b3] at I
      have b1' : decide ((96 : Int) < m.nm.size) = false := b1
      replace ho' := later ho'
      (repeat' (first | refine wk ?_ | refine wk2 ?_ ?_ | with_reducible refine wkF fun _ _ _ => ?_ | with_reducible intro _ | exact ag | fail))
      rename_i v hv hvn
      (repeat' (first | refine wk ?_ | refine wk2 ?_ ?_ | with_reducible refine wkF fun _ _ _ => ?_ | with_reducible intro _ | refine Calling.eq (E _) ?_ | refine Calling.eq (I _) ?_ | exact ag | fail))
      clear E I b1 b2 b3 b1' a1 a2 a3 a4 a5 ho
      refine ARun.rounds (fun i : Nat => ⟨[(1, .s (.pointer (some ⟨v, 0, none⟩))), (3, .s (.int .i64 i))], upd H v (.cells [.s (.string m.nm), .vs 1 (m.ex.map s1), .vs 1 (m.im.map s1), .vs 1 (m.co.map u1), .vs 1 (m.da.map u1), .vs 3 (m.re.map relE)])⟩) (fun i => m.re.length - i) (fun i => i ≤ m.re.length ∧ noneB kindB m.re i) ?_ 0 ⟨by omega, .zero⟩ ?_
      · rintro i ⟨hi, hno⟩ next
        replace hno := later hno
        by_cases hlt : i < m.re.length
        · have h1 : (i : Int) < m.re.length := by omega
          have h2 : (0 : Int) ≤ i := by omega
          obtain ⟨x, hx⟩ := at_ hlt
          have hx1 := vget relE hx
          rw [relE_def] at hx1
          have hw := w64s (i := i) (by omega)
          cases hb : kindB x with
          | true =>
            have hf := fi_some hx hb hno.go
            have ht : m.obj = 2 := by rw [ho'.go, hf, if_pos (by simp)]
            rw [ht]
            unfold kindB at hb
            clear hx next hf ht
            (repeat' (first | refine wk ?_ | refine wk2 ?_ ?_ | with_reducible refine wkF fun _ _ _ => ?_ | with_reducible intro _ | exact ag | fail))
            exact fin0
          | false =>
            have nx := next.go (i + 1) ⟨by omega, hno.go.succ hx hb⟩ (by omega)
            unfold kindB at hb
            clear hx next
            (repeat' (first | refine wk ?_ | refine wk2 ?_ ?_ | with_reducible refine wkF fun _ _ _ => ?_ | with_reducible intro _ | exact ag | fail))
            exact ARun.weaken nx (leK (Sub.refl _))
        · have h1 : decide ((i : Int) < m.re.length) = false := by simp; omega
          have hA1 : fi kindB m.re = -1 := fi_end (by omega) hno.go
          have ht : m.obj = 0 := by rw [ho'.go, hA1]; rfl
          rw [ht]
          clear next hA1 ht
          (repeat' (first | refine wk ?_ | refine wk2 ?_ ?_ | with_reducible refine wkF fun _ _ _ => ?_ | with_reducible intro _ | exact ag | fail))
          exact fin0
      · exact leK (Sub.refl _)
end Go.Abs
/- The document's answer about modules: names, texts that stand twice, words. -/
namespace Go.Abs
set_option linter.unusedSimpArgs false
set_option linter.unusedVariables false
open Go.Proofs Go.Nm Go.Wd
set_option linter.unusedVariables false
set_option maxRecDepth 8000
variable {H : Heap}
def Mod.nmI (m : Mod) : Int := if badN m.nm then 0 else if decide (0 ≤ fi badN m.ex) then 1 + fi badN m.ex else if decide (0 ≤ fi badN m.im) then 9 + fi badN m.im else -1
/-- All texts are short. -/
structure Mod.short (m : Mod) : Prop where
  nm : few m.nm
  ex : ∀ s ∈ m.ex, few s
  im : ∀ s ∈ m.im, few s
theorem rnames_c (m : Mod) (hm : m.ok) (hf : m.short) (H : Heap) : AC Tryd.prog 25 [m.tv] H (fun r H' => r = .s (.int .i64 m.nmI) ∧ H' = H) := by
  refine AC.body Tryd.func25 rfl rfl (n := 41) (res := [.tmp 2]) rfl rfl (by simp) ?_
  simp only [ent]
  simp only [Mod.tv_def]
  have hlex := hm.lex
  have hlim := hm.lim
  have hexs := later hf.ex
  have hims := later hf.im
  have K := fun H => rCheck_c (H := H) hf.nm
  have ht : m.nmI = if badN m.nm then 0 else if decide (0 ≤ fi badN m.ex) then 1 + fi badN m.ex else if decide (0 ≤ fi badN m.im) then 9 + fi badN m.im else -1 := rfl
  clear hm hf
  cases q0 : badN m.nm with
  | true =>
    rw [q0, if_pos rfl] at ht
    rw [ht]
    have q0' := chk_bad q0
    clear ht q0
    (repeat' (first | refine wk ?_ | refine wk2 ?_ ?_ | with_reducible refine wkF fun _ _ _ => ?_ | with_reducible intro _ | refine Calling.eq (K _) ?_ | exact ag | fail))
    exact fin0
  | false =>
    rw [q0, if_neg (by decide)] at ht
    have q0' := chk_bad q0
    replace ht := later ht
    clear q0
    (repeat' (first | refine wk ?_ | refine wk2 ?_ ?_ | with_reducible refine wkF fun _ _ _ => ?_ | with_reducible intro _ | exact ag | fail))
    rename_i v hv hvn
    (repeat' (first | refine wk ?_ | refine wk2 ?_ ?_ | with_reducible refine wkF fun _ _ _ => ?_ | with_reducible intro _ | refine Calling.eq (K _) ?_ | exact ag | fail))
    clear K q0'
    refine ARun.rounds (fun i : Nat => ⟨[(1, .s (.pointer (some ⟨v, 0, none⟩))), (3, .s (.int .i64 i))], upd H v (.cells [.s (.string m.nm), .vs 1 (m.ex.map s1), .vs 1 (m.im.map s1), .vs 1 (m.co.map u1), .vs 1 (m.da.map u1), .vs 3 (m.re.map relE)])⟩) (fun i => m.ex.length - i) (fun i => i ≤ m.ex.length ∧ noneB badN m.ex i) ?_ 0 ⟨by omega, .zero⟩ ?_
    · rintro i ⟨hi, hno⟩ next
      replace hno := later hno
      by_cases hlt : i < m.ex.length
      · have h1 : (i : Int) < m.ex.length := by omega
        have h2 : (0 : Int) ≤ i := by omega
        obtain ⟨x, hx⟩ := at_ hlt
        have hx1 := vget s1 hx
        rw [s1_def] at hx1
        have hw := w64s (i := i) (by omega)
        have K := fun H => rCheck_c (H := H) (hexs.go x (List.mem_of_getElem? hx))
        cases hb : badN x with
        | true =>
          have hb' := chk_bad hb
          have hf := fi_some hx hb hno.go
          have ht' : m.nmI = ((i + 1 : Nat) : Int) := by rw [ht.go, hf, if_pos (by simp)]; omega
          have hw2 : IntKind.i64.wrap (1 + (i : Int)) = ((i + 1 : Nat) : Int) := by rw [Int.add_comm]; exact hw
          rw [ht']
          clear hx next hf ht' hb
          (repeat' (first | refine wk ?_ | refine wk2 ?_ ?_ | with_reducible refine wkF fun _ _ _ => ?_ | with_reducible intro _ | refine Calling.eq (K _) ?_ | exact ag | fail))
          exact fin0
        | false =>
          have hb' := chk_bad hb
          have nx := next.go (i + 1) ⟨by omega, hno.go.succ hx hb⟩ (by omega)
          clear hx next hb
          (repeat' (first | refine wk ?_ | refine wk2 ?_ ?_ | with_reducible refine wkF fun _ _ _ => ?_ | with_reducible intro _ | refine Calling.eq (K _) ?_ | exact ag | fail))
          exact ARun.weaken nx (leK (Sub.refl _))
      · have h1 : decide ((i : Int) < m.ex.length) = false := by simp; omega
        have hA1 : fi badN m.ex = -1 := fi_end (by omega) hno.go
        replace ht := ht.go
        rw [hA1, if_neg (by decide)] at ht
        replace ht := later ht
        clear next hA1
        (repeat' (first | refine wk ?_ | refine wk2 ?_ ?_ | with_reducible refine wkF fun _ _ _ => ?_ | with_reducible intro _ | exact ag | fail))
        refine ARun.rounds (fun i : Nat => ⟨[(1, .s (.pointer (some ⟨v, 0, none⟩))), (4, .s (.int .i64 i))], upd H v (.cells [.s (.string m.nm), .vs 1 (m.ex.map s1), .vs 1 (m.im.map s1), .vs 1 (m.co.map u1), .vs 1 (m.da.map u1), .vs 3 (m.re.map relE)])⟩) (fun i => m.im.length - i) (fun i => i ≤ m.im.length ∧ noneB badN m.im i) ?_ 0 ⟨by omega, .zero⟩ ?_
        · rintro i ⟨hi, hno⟩ next
          replace hno := later hno
          clear h1
          by_cases hlt : i < m.im.length
          · have h1 : (i : Int) < m.im.length := by omega
            have h2 : (0 : Int) ≤ i := by omega
            obtain ⟨x, hx⟩ := at_ hlt
            have hx1 := vget s1 hx
            rw [s1_def] at hx1
            have hw := w64s (i := i) (by omega)
            have K := fun H => rCheck_c (H := H) (hims.go x (List.mem_of_getElem? hx))
            cases hb : badN x with
            | true =>
              have hb' := chk_bad hb
              have hf := fi_some hx hb hno.go
              have ht' : m.nmI = ((i + 9 : Nat) : Int) := by rw [ht.go, hf, if_pos (by simp)]; omega
              have hw2 : IntKind.i64.wrap (9 + (i : Int)) = ((i + 9 : Nat) : Int) := by rw [wi64 (by omega) (by omega)]; omega
              rw [ht']
              clear hx next hf ht' hb
              (repeat' (first | refine wk ?_ | refine wk2 ?_ ?_ | with_reducible refine wkF fun _ _ _ => ?_ | with_reducible intro _ | refine Calling.eq (K _) ?_ | exact ag | fail))
              exact fin0
            | false =>
              have hb' := chk_bad hb
              have nx := next.go (i + 1) ⟨by omega, hno.go.succ hx hb⟩ (by omega)
              clear hx next hb
              (repeat' (first | refine wk ?_ | refine wk2 ?_ ?_ | with_reducible refine wkF fun _ _ _ => ?_ | with_reducible intro _ | refine Calling.eq (K _) ?_ | exact ag | fail))
              exact ARun.weaken nx (leK (Sub.refl _))
          · have h1 : decide ((i : Int) < m.im.length) = false := by simp; omega
            have hA1 : fi badN m.im = -1 := fi_end (by omega) hno.go
            have ht' : m.nmI = -1 := by rw [ht.go, hA1]; rfl
            rw [ht']
            clear next hA1 ht'
            (repeat' (first | refine wk ?_ | refine wk2 ?_ ?_ | with_reducible refine wkF fun _ _ _ => ?_ | with_reducible intro _ | exact ag | fail))
            exact fin0
        · exact leK (Sub.refl _)
    · exact leK (Sub.refl _)
theorem dup_yes {l : List ByteArray} {i k : Nat} {x y : ByteArray} (hx : l[i]? = some x) (hk : k < i) (hy : l[k]? = some y) (h : (x.toList == y.toList) = true) (hn : noneB (fun y => x.toList == y.toList) l k) : dup l i = true := by
  unfold dup
  rw [hx]
  have : fi (fun y => x.toList == y.toList) (l.take i) = k := fi_some (x := y) (by rw [List.getElem?_take_of_lt hk]; exact hy) h (fun j z hj hz => hn j z hj (by rw [List.getElem?_take_of_lt (by omega)] at hz; exact hz))
  simp only [this]; simp
theorem dup_no {l : List ByteArray} {i : Nat} {x : ByteArray} (hx : l[i]? = some x) (hn : noneB (fun y => x.toList == y.toList) l i) : dup l i = false := by
  unfold dup
  rw [hx]
  have : fi (fun y => x.toList == y.toList) (l.take i) = -1 := fi_end (i := i) (by rw [List.length_take]; omega) (fun j z hj hz => hn j z hj (by rw [List.getElem?_take_of_lt (by omega)] at hz; exact hz))
  simp only [this]; rfl
theorem ragain_c (l : List ByteArray) (hl : l.length < 4611686018427387904) (H : Heap) : AC Tryd.prog 54 [.vs 1 (l.map s1)] H (fun r H' => r = .s (.int .i64 (rep l)) ∧ H' = H) := by
  refine AC.body Tryd.func54 rfl rfl (n := 26) (res := [.tmp 2]) rfl rfl (by simp) ?_
  simp only [ent]
  (repeat' (first | refine wk ?_ | refine wk2 ?_ ?_ | with_reducible refine wkF fun _ _ _ => ?_ | with_reducible intro _ | exact ag | fail))
  refine ARun.rounds (fun i : Nat => ⟨[(0, .vs 1 (l.map s1)), (3, .s (.int .i64 i))], H⟩) (fun i => l.length - i) (fun i => i ≤ l.length ∧ noneB (dup l) (List.range l.length) i) ?_ 0 ⟨by omega, .zero⟩ ?_
  · rintro i ⟨hi, hno⟩ next
    replace hno := later hno
    by_cases hlt : i < l.length
    · have h1 : (i : Int) < l.length := by omega
      have h2 : (0 : Int) ≤ i := by omega
      obtain ⟨x, hx⟩ := at_ hlt
      have hx1 := vget s1 hx
      rw [s1_def] at hx1
      have hw := w64s (i := i) (by omega)
      replace hx := later hx
      (repeat' (first | refine wk ?_ | refine wk2 ?_ ?_ | with_reducible refine wkF fun _ _ _ => ?_ | with_reducible intro _ | exact ag | fail))
      refine ARun.rounds (fun k : Nat => ⟨[(0, .vs 1 (l.map s1)), (3, .s (.int .i64 i)), (4, .s (.int .i64 k))], H⟩) (fun k => i - k) (fun k => k ≤ i ∧ noneB (fun y => x.toList == y.toList) l k) ?_ 0 ⟨by omega, .zero⟩ ?_
      · rintro k ⟨hk, hnk⟩ nextk
        replace hnk := later hnk
        by_cases hkl : k < i
        · have g1 : (k : Int) < i := by omega
          have g2 : (0 : Int) ≤ k := by omega
          have g3 : (k : Int) < l.length := by omega
          obtain ⟨y, hy⟩ := at_ (show k < l.length by omega)
          have hy1 := vget s1 hy
          rw [s1_def] at hy1
          have hw2 := w64s (i := k) (by omega)
          cases hb : (x.toList == y.toList) with
          | true =>
            have hd := dup_yes hx.go hkl hy hb hnk.go
            rw [rep_some hlt hd hno.go]
            clear hd next nextk hy
            (repeat' (first | refine wk ?_ | refine wk2 ?_ ?_ | with_reducible refine wkF fun _ _ _ => ?_ | with_reducible intro _ | exact ag | fail))
            refine ARun.drawB mixed [([], [0, 1, 2, 3, 4, 5, 6, 7, 8], none)] (by kernel_rfl) (by rfl) ?_
            (repeat' (first | refine wk ?_ | refine wk2 ?_ ?_ | with_reducible refine wkF fun _ _ _ => ?_ | with_reducible intro _ | exact ag | fail))
            exact fin0
          | false =>
            have nx := nextk.go (k + 1) ⟨by omega, hnk.go.succ hy hb⟩ (by omega)
            clear next nextk hy
            (repeat' (first | refine wk ?_ | refine wk2 ?_ ?_ | with_reducible refine wkF fun _ _ _ => ?_ | with_reducible intro _ | exact ag | fail))
            refine ARun.drawB mixed [([], [0, 1, 2, 3, 4, 5, 6, 7, 8], none)] (by kernel_rfl) (by rfl) ?_
            (repeat' (first | refine wk ?_ | refine wk2 ?_ ?_ | with_reducible refine wkF fun _ _ _ => ?_ | with_reducible intro _ | exact ag | fail))
            exact ARun.weaken nx (leK (Sub.refl _))
        · have g1 : decide ((k : Int) < i) = false := by simp; omega
          obtain rfl : k = i := by omega
          have hd := dup_no hx.go hnk.go
          have nx := next.go (k + 1) ⟨by omega, hno.go.succ (range_get hlt) hd⟩ (by omega)
          clear next nextk hd
          (repeat' (first | refine wk ?_ | refine wk2 ?_ ?_ | with_reducible refine wkF fun _ _ _ => ?_ | with_reducible intro _ | exact ag | fail))
          exact ARun.weaken nx (leK (Sub.refl _))
      · exact leK (Sub.refl _)
    · have h1 : decide ((i : Int) < l.length) = false := by simp; omega
      have he : rep l = -1 := fi_end (by simp; omega) hno.go
      rw [he]
      clear next he
      (repeat' (first | refine wk ?_ | refine wk2 ?_ ?_ | with_reducible refine wkF fun _ _ _ => ?_ | with_reducible intro _ | exact ag | fail))
      exact fin0
  · exact leK (Sub.refl _)
end Go.Abs
/- The document's answer about modules: texts that stand twice, words, places. -/
namespace Go.Abs
set_option linter.unusedSimpArgs false
set_option linter.unusedVariables false
open Go.Proofs Go.Nm Go.Wd
set_option linter.unusedVariables false
set_option maxRecDepth 8000
variable {H : Heap}
def Mod.twI (m : Mod) : Int := if decide (0 ≤ rep m.ex) then rep m.ex else if decide (0 ≤ rep m.im) then IntKind.i64.wrap (8 + rep m.im) else -1
theorem rtwice_c (m : Mod) (hm : m.ok) (H : Heap) : AC Tryd.prog 26 [m.tv] H (fun r H' => r = .s (.int .i64 m.twI) ∧ H' = H) := by
  refine AC.body Tryd.func26 rfl rfl (n := 17) (res := [.tmp 2]) rfl rfl (by simp) ?_
  simp only [ent]
  have R1 := fun H => ragain_c m.ex hm.lex H
  have R2 := fun H => ragain_c m.im hm.lim H
  simp only [Mod.tv_def]
  clear hm
  unfold Mod.twI
  generalize rep m.ex = a at *
  generalize rep m.im = b at *
  (repeat' (first | refine wk ?_ | refine wk2 ?_ ?_ | with_reducible refine wkF fun _ _ _ => ?_ | with_reducible intro _ | refine Calling.eq (R1 _) ?_ | refine Calling.eq (R2 _) ?_ | exact ag | fail))
  all_goals
    refine fin1 ⟨?_, rfl⟩
    first | rfl | (simp only [resV, id, *, Bool.or_false, Bool.or_true, Bool.false_or, Bool.true_or, Bool.and_false, Bool.and_true, Bool.false_and, Bool.true_and, Bool.not_true, Bool.not_false, Bool.false_eq_true, if_true, if_false]; done) | (simp only [resV, id]; simp_all; done) | (simp only [resV, id]; simp_all <;> omega)
theorem rwords_c (m : Mod) (hm : m.ok) (H : Heap) : AC Tryd.prog 27 [m.tv] H (fun r H' => r = .s (.int .i64 (fi badW m.co)) ∧ H' = H) := by
  refine AC.body Tryd.func27 rfl rfl (n := 30) (res := [.tmp 2]) rfl rfl (by simp) ?_
  simp only [ent]
  simp only [Mod.tv_def]
  have hlco := hm.lco
  have hco := later hm.co
  clear hm
  (repeat' (first | refine wk ?_ | refine wk2 ?_ ?_ | with_reducible refine wkF fun _ _ _ => ?_ | with_reducible intro _ | exact ag | fail))
  rename_i v hv hvn
  refine ARun.rounds (fun i : Nat => ⟨[(1, .s (.pointer (some ⟨v, 0, none⟩))), (3, .s (.int .i64 i))], upd H v (.cells [.s (.string m.nm), .vs 1 (m.ex.map s1), .vs 1 (m.im.map s1), .vs 1 (m.co.map u1), .vs 1 (m.da.map u1), .vs 3 (m.re.map relE)])⟩) (fun i => m.co.length - i) (fun i => i ≤ m.co.length ∧ noneB badW m.co i) ?_ 0 ⟨by omega, .zero⟩ ?_
  · rintro i ⟨hi, hno⟩ next
    replace hno := later hno
    by_cases hlt : i < m.co.length
    · have h1 : (i : Int) < m.co.length := by omega
      have h2 : (0 : Int) ≤ i := by omega
      obtain ⟨x, hx⟩ := at_ hlt
      have hx1 := vget u1 hx
      rw [u1_def] at hx1
      have hw := w64s (i := i) (by omega)
      have D := fun H => rDecode_c (H := H) (hco.go x (List.mem_of_getElem? hx))
      rw [Ins.enc_def] at D
      cases hb : badW x with
      | true =>
        have hf := fi_some hx hb hno.go
        rw [hf]
        unfold badW at hb
        clear hx next hf
        cases q1 : (decE x != 0) with
        | true =>
          clear hb
          (repeat' (first | refine wk ?_ | refine wk2 ?_ ?_ | with_reducible refine wkF fun _ _ _ => ?_ | with_reducible intro _ | refine Calling.eq (D _) ?_ | exact ag | fail))
          exact fin0
        | false =>
          rw [q1, Bool.false_or] at hb
          (repeat' (first | refine wk ?_ | refine wk2 ?_ ?_ | with_reducible refine wkF fun _ _ _ => ?_ | with_reducible intro _ | refine Calling.eq (D _) ?_ | exact ag | fail))
          exact fin0
      | false =>
        have nx := next.go (i + 1) ⟨by omega, hno.go.succ hx hb⟩ (by omega)
        have hb' := hb
        unfold badW at hb'
        obtain ⟨q1, q2⟩ := Bool.or_eq_false_iff.1 hb'
        clear hb' hx next
        (repeat' (first | refine wk ?_ | refine wk2 ?_ ?_ | with_reducible refine wkF fun _ _ _ => ?_ | with_reducible intro _ | refine Calling.eq (D _) ?_ | exact ag | fail))
        exact ARun.weaken nx (leK (by exact sb))
    · have h1 : decide ((i : Int) < m.co.length) = false := by simp; omega
      have hA1 : fi badW m.co = -1 := fi_end (by omega) hno.go
      rw [hA1]
      clear next hA1
      (repeat' (first | refine wk ?_ | refine wk2 ?_ ?_ | with_reducible refine wkF fun _ _ _ => ?_ | with_reducible intro _ | exact ag | fail))
      exact fin0
  · exact leK (Sub.refl _)
theorem six (k : Int) : (k == 0) = true ∨ ((k == 0) = false ∧ (k == 1) = true) ∨ ((k == 0) = false ∧ (k == 1) = false ∧ (k == 4) = true) ∨ ((k == 0) = false ∧ (k == 1) = false ∧ (k == 4) = false ∧ (k == 2) = true) ∨ ((k == 0) = false ∧ (k == 1) = false ∧ (k == 4) = false ∧ (k == 2) = false ∧ (k == 5) = true) ∨
    ((k == 0) = false ∧ (k == 1) = false ∧ (k == 4) = false ∧ (k == 2) = false ∧ (k == 5) = false) := by
  cases (k == 0) <;> cases (k == 1) <;> cases (k == 4) <;> cases (k == 2) <;> cases (k == 5) <;> simp
set_option maxHeartbeats 2000000 in
theorem rwhich_c (m : Mod) (hm : m.ok) (H : Heap) : AC Tryd.prog 30 [m.tv] H (fun r H' => r = .s (.int .i64 (fi (fun r => !m.thr r) m.re)) ∧ H' = H) := by
  refine AC.body Tryd.func30 rfl rfl (n := 44) (res := [.tmp 2]) rfl rfl (by simp) ?_
  simp only [ent]
  simp only [Mod.tv_def]
  have hlre := hm.lre
  have hrs := later hm.re
  clear hm
  (repeat' (first | refine wk ?_ | refine wk2 ?_ ?_ | with_reducible refine wkF fun _ _ _ => ?_ | with_reducible intro _ | exact ag | fail))
  rename_i v hv hvn
  refine ARun.rounds (fun i : Nat => ⟨[(1, .s (.pointer (some ⟨v, 0, none⟩))), (3, .s (.int .i64 i))], upd H v (.cells [.s (.string m.nm), .vs 1 (m.ex.map s1), .vs 1 (m.im.map s1), .vs 1 (m.co.map u1), .vs 1 (m.da.map u1), .vs 3 (m.re.map relE)])⟩) (fun i => m.re.length - i) (fun i => i ≤ m.re.length ∧ noneB (fun r => !m.thr r) m.re i) ?_ 0 ⟨by omega, .zero⟩ ?_
  · rintro i ⟨hi, hno⟩ next
    replace hno := later hno
    by_cases hlt : i < m.re.length
    · have h1 : (i : Int) < m.re.length := by omega
      have h2 : (0 : Int) ≤ i := by omega
      obtain ⟨x, hx⟩ := at_ hlt
      have hx1 := vget relE hx
      rw [relE_def] at hx1
      have hw := w64s (i := i) (by omega)
      have e16 := u16_i64 ((hrs.go x (List.mem_of_getElem? hx)).2.2)
      have hthr : (!m.thr x) = if ((x.k : Int) == 0) || (((x.k : Int) == 1) || ((x.k : Int) == 4)) then decide ((m.im.length : Int) ≤ (x.w : Int)) else if ((x.k : Int) == 2) || ((x.k : Int) == 5) then decide ((m.da.length : Int) ≤ (x.w : Int)) else decide ((m.co.length : Int) ≤ (x.w : Int)) := by
        unfold Mod.thr
        split <;> (try split) <;> (rw [Bool.eq_iff_iff]; simp)
      cases hb : (!m.thr x) with
      | true =>
        have hf := fi_some (p := fun r => !m.thr r) hx hb hno.go
        rw [hf]
        rw [hb] at hthr
        clear hx next hf hb
        rcases six x.k with q1 | ⟨q1, q2⟩ | ⟨q1, q2, q3⟩ | ⟨q1, q2, q3, q4⟩ | ⟨q1, q2, q3, q4, q5⟩ | ⟨q1, q2, q3, q4, q5⟩
        all_goals
          simp only [*, Bool.or_true, Bool.or_false, Bool.true_or, Bool.false_or, Bool.false_eq_true, if_true, if_false] at hthr
          replace hthr := hthr.symm
        all_goals
          (repeat' (first | refine wk ?_ | refine wk2 ?_ ?_ | with_reducible refine wkF fun _ _ _ => ?_ | with_reducible intro _ | exact ag | fail))
          exact fin0
      | false =>
        have nx := next.go (i + 1) ⟨by omega, hno.go.succ hx hb⟩ (by omega)
        rw [hb] at hthr
        clear hx next hb
        rcases six x.k with q1 | ⟨q1, q2⟩ | ⟨q1, q2, q3⟩ | ⟨q1, q2, q3, q4⟩ | ⟨q1, q2, q3, q4, q5⟩ | ⟨q1, q2, q3, q4, q5⟩
        all_goals
          simp only [*, Bool.or_true, Bool.or_false, Bool.true_or, Bool.false_or, Bool.false_eq_true, if_true, if_false] at hthr
          replace hthr := hthr.symm
        all_goals
          (repeat' (first | refine wk ?_ | refine wk2 ?_ ?_ | with_reducible refine wkF fun _ _ _ => ?_ | with_reducible intro _ | exact ag | fail))
          exact ARun.weaken nx (leK (by exact sb))
    · have h1 : decide ((i : Int) < m.re.length) = false := by simp; omega
      have hA1 : fi (fun r => !m.thr r) m.re = -1 := fi_end (by omega) hno.go
      rw [hA1]
      clear next hA1
      (repeat' (first | refine wk ?_ | refine wk2 ?_ ?_ | with_reducible refine wkF fun _ _ _ => ?_ | with_reducible intro _ | exact ag | fail))
      exact fin0
  · exact leK (Sub.refl _)
end Go.Abs
/- The document's answer about modules: places, kinds, calls that nothing names. -/
namespace Go.Abs
set_option linter.unusedSimpArgs false
set_option linter.unusedVariables false
open Go.Proofs Go.Nm Go.Wd
set_option linter.unusedVariables false
set_option maxRecDepth 8000
variable {H : Heap}
theorem call_parts {w : Nat} (h : (dec w).o = 17) : (dec w).d = 0 ∧ (dec w).a = 0 ∧ (dec w).b = 0 := by
  unfold dec at h ⊢
  by_cases hk : insOk w = true
  · rw [if_pos hk] at h ⊢
    unfold insOk at hk
    have hc : (parts w).chk = 0 := by have := (Bool.and_eq_true_iff.1 hk).1; simpa using this
    unfold Ins.chk at hc
    obtain ⟨_, h1, h2, h3, _, _, _⟩ := check_zero hc
    rw [h] at h1 h2 h3
    simp [usesR, regR] at h1 h2 h3
    omega
  · rw [if_neg hk] at h; cases h
theorem same_call (w : Nat) : same5 (dec w) ⟨17, 0, 0, 0, 0⟩ = ((((dec w).o : Int) == 17) && ((dec w).i == 0)) := by
  unfold same5
  cases q : (((dec w).o : Int) == 17) with
  | false => simp
  | true =>
    have h : (dec w).o = 17 := by have := (beq_iff_eq.1 q); omega
    obtain ⟨h1, h2, h3⟩ := call_parts h
    rw [h1, h2, h3]; simp
theorem inB_cons {α : Type} [DecidableEq α] {k : α} {ks : List α} {a : α} : inB k (ks ++ [a]) = (inB k ks || decide (k = a)) := by
  unfold inB; rw [Bool.eq_iff_iff]; simp
theorem spots_get {m : Mod} {i k : Nat} {y : Rlc} (hk : k < i) (hy : m.re[k]? = some y) : y.spot ∈ (m.re.take i).map Rlc.spot :=
  List.mem_map.2 ⟨y, List.mem_of_getElem? (i := k) (by rw [List.getElem?_take_of_lt hk]; exact hy), rfl⟩
/-- Do two relocations name one word? -/
def hitB (x y : Rlc) : Bool := ((y.a : Int) == (x.a : Int)) && (y.spot.1 == x.spot.1)
theorem hit_spot {x y : Rlc} (h : hitB x y = true) : y.spot = x.spot := by
  unfold hitB at h
  obtain ⟨h1, h2⟩ := Bool.and_eq_true_iff.1 h
  have h3 : y.a = x.a := by have := beq_iff_eq.1 h1; omega
  have h4 := beq_iff_eq.1 h2
  exact Prod.ext h4 h3
theorem spot_hit {x y : Rlc} (h : y.spot = x.spot) : hitB x y = true := by
  unfold hitB
  have h1 : y.a = x.a := congrArg Prod.snd h
  rw [h, h1]; simp
theorem badP_far {m : Mod} {i : Nat} {x : Rlc} (hx : m.re[i]? = some x) (h : decide (((m.len x : Nat) : Int) ≤ (x.a : Int)) = true) : m.badP i = true := by
  unfold Mod.badP; rw [hx]; simp only [h, Bool.or_true]
theorem badP_hit {m : Mod} {i k : Nat} {x y : Rlc} (hx : m.re[i]? = some x) (hk : k < i) (hy : m.re[k]? = some y) (h : hitB x y = true) : m.badP i = true := by
  have := spots_get hk hy
  rw [hit_spot h] at this
  unfold Mod.badP; rw [hx]; simp only [inB, this, decide_true, Bool.true_or]
theorem badP_not {m : Mod} {i : Nat} {x : Rlc} (hx : m.re[i]? = some x) (h : decide (((m.len x : Nat) : Int) ≤ (x.a : Int)) = false) (hn : noneB (hitB x) m.re i) : m.badP i = false := by
  unfold Mod.badP; rw [hx]; simp only [h, Bool.or_false, inB]
  rw [decide_eq_false_iff_not]
  intro hm
  obtain ⟨y, hy, he⟩ := List.mem_map.1 hm
  obtain ⟨j, hj⟩ := List.mem_iff_getElem?.1 hy
  by_cases hji : j < i
  · rw [List.getElem?_take_of_lt hji] at hj
    have := hn j y hji hj
    rw [spot_hit he] at this; cases this
  · rw [List.getElem?_eq_none (by rw [List.length_take]; omega)] at hj; cases hj
set_option maxHeartbeats 2000000 in
theorem rplaces_c (m : Mod) (hm : m.ok) (hk : ∀ r ∈ m.re, (r.k : Int) ≤ 7) (H : Heap) : AC Tryd.prog 28 [m.tv] H (fun r H' => r = .s (.int .i64 (fi m.badP (List.range m.re.length))) ∧ H' = H) := by
  refine AC.body Tryd.func28 rfl rfl (n := 62) (res := [.tmp 2]) rfl rfl (by simp) ?_
  simp only [ent]
  simp only [Mod.tv_def]
  have hlre := hm.lre
  have hlco := hm.lco
  have hlda := hm.lda
  have hrs := later hm.re
  have hks := later hk
  clear hm hk
  (repeat' (first | refine wk ?_ | refine wk2 ?_ ?_ | with_reducible refine wkF fun _ _ _ => ?_ | with_reducible intro _ | exact ag | fail))
  rename_i v hv hvn
  refine ARun.rounds (fun i : Nat => ⟨[(1, .s (.pointer (some ⟨v, 0, none⟩))), (3, .s (.int .i64 i))], upd H v (.cells [.s (.string m.nm), .vs 1 (m.ex.map s1), .vs 1 (m.im.map s1), .vs 1 (m.co.map u1), .vs 1 (m.da.map u1), .vs 3 (m.re.map relE)])⟩) (fun i => m.re.length - i) (fun i => i ≤ m.re.length ∧ noneB m.badP (List.range m.re.length) i) ?_ 0 ⟨by omega, .zero⟩ ?_
  · rintro i ⟨hi, hno⟩ next
    replace hno := later hno
    by_cases hlt : i < m.re.length
    · have h1 : (i : Int) < m.re.length := by omega
      have h2 : (0 : Int) ≤ i := by omega
      obtain ⟨x, hx⟩ := at_ hlt
      have hx1 := vget relE hx
      rw [relE_def] at hx1
      have hw := w64s (i := i) (by omega)
      have e16 := u16_i64 ((hrs.go x (List.mem_of_getElem? hx)).2.1)
      have I := fun H => rin_c x (hks.go x (List.mem_of_getElem? hx)) H
      have hln : m.len x = if x.spot.1 then m.co.length else m.da.length := rfl
      replace hx := later hx
      cases hla : decide (((m.len x : Nat) : Int) ≤ (x.a : Int)) with
      | true =>
        have hf := fi_some (range_get hlt) (badP_far hx.go hla) hno.go
        rw [hf]
        rw [hln] at hla
        clear hf next hln
        cases hc : x.spot.1
        all_goals
          rw [hc] at I hla
          simp only [if_true, if_false, Bool.false_eq_true] at hla
          clear hc
          (repeat' (first | refine wk ?_ | refine wk2 ?_ ?_ | with_reducible refine wkF fun _ _ _ => ?_ | with_reducible intro _ | refine Calling.eq (I _) ?_ | exact ag | fail))
          exact fin0
      | false =>
        have hla' := later hla
        rw [hln] at hla
        clear hln
        cases hc : x.spot.1
        all_goals
          have hI := later hc
          rw [hc] at I hla
          simp only [if_true, if_false, Bool.false_eq_true] at hla
          clear hc
          (repeat' (first | refine wk ?_ | refine wk2 ?_ ?_ | with_reducible refine wkF fun _ _ _ => ?_ | with_reducible intro _ | refine Calling.eq (I _) ?_ | exact ag | fail))
          rename_i b hb hbn
          refine ARun.rounds (fun k : Nat => ⟨[(1, .s (.pointer (some ⟨v, 0, none⟩))), (3, .s (.int .i64 i)), (4, .s (.pointer (some ⟨b, 0, none⟩))), (6, .s (.int .i64 k))],
            upd (upd H v (.cells [.s (.string m.nm), .vs 1 (m.ex.map s1), .vs 1 (m.im.map s1), .vs 1 (m.co.map u1), .vs 1 (m.da.map u1), .vs 3 (m.re.map relE)])) b (.cells [.s (.int .u8 x.k), .s (.int .u16 x.a), .s (.int .u16 x.w)])⟩) (fun k => i - k) (fun k => k ≤ i ∧ noneB (hitB x) m.re k) ?_ 0 ⟨by omega, .zero⟩ ?_
          · rintro k ⟨hk, hnk⟩ nextk
            replace hnk := later hnk
            by_cases hkl : k < i
            · have g1 : (k : Int) < i := by omega
              have g2 : (0 : Int) ≤ k := by omega
              have g3 : (k : Int) < m.re.length := by omega
              obtain ⟨y, hy⟩ := at_ (show k < m.re.length by omega)
              have hy1 := vget relE hy
              rw [relE_def] at hy1
              have hw2 := w64s (i := k) (by omega)
              have J := fun H => rin_c y (hks.go y (List.mem_of_getElem? hy)) H
              cases hb : hitB x y with
              | true =>
                have hf := fi_some (range_get hlt) (badP_hit hx.go hkl hy hb) hno.go
                rw [hf]
                unfold hitB at hb
                obtain ⟨q1, q2⟩ := Bool.and_eq_true_iff.1 hb
                rw [hI.go] at q2
                have q3 := beq_iff_eq.1 q2
                rw [q3] at J
                clear hf hb q2 q3 hy next nextk
                (repeat' (first | refine wk ?_ | refine wk2 ?_ ?_ | with_reducible refine wkF fun _ _ _ => ?_ | with_reducible intro _ | exact ag | fail))
                refine ARun.drawB mixed [([], [0, 1, 2, 3, 4, 5, 6, 7, 8, 9, 10, 11, 12, 13, 14, 15, 17, 18], some 16), ([0, 1, 2, 3, 4, 5, 6, 7, 8, 10, 11, 12, 13, 14, 17, 18], [], some 19), ([0, 1, 2, 3, 4, 5, 6, 7, 8, 10, 11, 12, 13, 14, 15, 17], [20, 21], none)] (by kernel_rfl) (by rfl) ?_
                (repeat' (first | refine wk ?_ | refine wk2 ?_ ?_ | with_reducible refine wkF fun _ _ _ => ?_ | with_reducible intro _ | refine Calling.eq (I _) ?_ | refine Calling.eq (J _) ?_ | exact ag | fail))
                exact fin0
              | false =>
                have nx := nextk.go (k + 1) ⟨by omega, hnk.go.succ hy hb⟩ (by omega)
                unfold hitB at hb
                rw [hI.go] at hb
                cases q1 : ((y.a : Int) == (x.a : Int)) with
                | false =>
                  clear hb hy next nextk
                  (repeat' (first | refine wk ?_ | refine wk2 ?_ ?_ | with_reducible refine wkF fun _ _ _ => ?_ | with_reducible intro _ | exact ag | fail))
                  refine ARun.drawB mixed [([], [0, 1, 2, 3, 4, 5, 6, 7, 8, 9, 10, 11, 12, 13, 14, 15, 17, 18], some 16), ([0, 1, 2, 3, 4, 5, 6, 7, 8, 10, 11, 12, 13, 14, 17, 18], [], some 19), ([0, 1, 2, 3, 4, 5, 6, 7, 8, 10, 11, 12, 13, 14, 15, 17], [20, 21], none)] (by kernel_rfl) (by rfl) ?_
                  (repeat' (first | refine wk ?_ | refine wk2 ?_ ?_ | with_reducible refine wkF fun _ _ _ => ?_ | with_reducible intro _ | refine Calling.eq (I _) ?_ | refine Calling.eq (J _) ?_ | exact ag | fail))
                  exact ARun.weaken nx (leK (by exact sb))
                | true =>
                  rw [q1, Bool.true_and] at hb
                  cases q3 : y.spot.1
                  all_goals
                    rw [q3] at J hb
                    first
                    | (exfalso; revert hb; decide)
                    | (clear hb hy next nextk q3
                       (repeat' (first | refine wk ?_ | refine wk2 ?_ ?_ | with_reducible refine wkF fun _ _ _ => ?_ | with_reducible intro _ | exact ag | fail))
                       refine ARun.drawB mixed [([], [0, 1, 2, 3, 4, 5, 6, 7, 8, 9, 10, 11, 12, 13, 14, 15, 17, 18], some 16), ([0, 1, 2, 3, 4, 5, 6, 7, 8, 10, 11, 12, 13, 14, 17, 18], [], some 19), ([0, 1, 2, 3, 4, 5, 6, 7, 8, 10, 11, 12, 13, 14, 15, 17], [20, 21], none)] (by kernel_rfl) (by rfl) ?_
                       (repeat' (first | refine wk ?_ | refine wk2 ?_ ?_ | with_reducible refine wkF fun _ _ _ => ?_ | with_reducible intro _ | refine Calling.eq (I _) ?_ | refine Calling.eq (J _) ?_ | exact ag | fail))
                       exact ARun.weaken nx (leK (by exact sb)))
            · have g1 : decide ((k : Int) < i) = false := by simp; omega
              obtain rfl : k = i := by omega
              have hd := badP_not hx.go hla'.go hnk.go
              have nx := next.go (k + 1) ⟨by omega, hno.go.succ (range_get hlt) hd⟩ (by omega)
              clear next nextk hd
              (repeat' (first | refine wk ?_ | refine wk2 ?_ ?_ | with_reducible refine wkF fun _ _ _ => ?_ | with_reducible intro _ | exact ag | fail))
              exact ARun.weaken nx (leK (by exact sb))
          · exact leK (Sub.refl _)
    · have h1 : decide ((i : Int) < m.re.length) = false := by simp; omega
      have he : fi m.badP (List.range m.re.length) = -1 := fi_end (by simp; omega) hno.go
      rw [he]
      clear next he
      (repeat' (first | refine wk ?_ | refine wk2 ?_ ?_ | with_reducible refine wkF fun _ _ _ => ?_ | with_reducible intro _ | exact ag | fail))
      exact fin0
  · exact leK (Sub.refl _)
end Go.Abs
