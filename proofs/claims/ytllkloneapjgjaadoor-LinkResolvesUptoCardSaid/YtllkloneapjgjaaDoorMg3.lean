import Derived.Test.YtllkloneapjgjaaDoorMg2
import Derived.Test.YtllkloneapjgjaaDoorAb18
/- Names: lists of runes and checks, as the references do. -/
namespace Go.Abs
set_option linter.unusedSimpArgs false
set_option linter.unusedVariables false
set_option maxHeartbeats 4000000
open Go.Proofs Go.Nm Go.RowKit Go.Lib
set_option linter.unusedVariables false
set_option maxRecDepth 8000
variable {H : Heap}
theorem rletter_c {r : Int} : AC Tryd.prog 61 [.s (.int .i64 r)] H (fun x H' => x = .s (.bool (letR r)) ∧ H' = H) := by
  refine AC.body Tryd.func61 rfl rfl (n := 21) (res := [.tmp 2]) rfl rfl (by simp) ?_
  simp only [ent]
  (repeat' (first | refine wk ?_ | refine wk2 ?_ ?_ | with_reducible refine wkF fun _ _ _ => ?_ | with_reducible intro _ | exact ag | fail))
  all_goals
    refine fin1 ⟨?_, rfl⟩
    simp only [resV, letR]
    simp_all <;> omega
theorem rdigit_c {r : Int} : AC Tryd.prog 62 [.s (.int .i64 r)] H (fun x H' => x = .s (.bool (digR r)) ∧ H' = H) := by
  refine AC.body Tryd.func62 rfl rfl (n := 9) (res := [.tmp 2]) rfl rfl (by simp) ?_
  simp only [ent]
  (repeat' (first | refine wk ?_ | refine wk2 ?_ ?_ | with_reducible refine wkF fun _ _ _ => ?_ | with_reducible intro _ | exact ag | fail))
  all_goals
    refine fin1 ⟨?_, rfl⟩
    simp only [resV, digR]
    simp_all <;> omega
/-- A number, as a row's element. -/
def i1 (x : Int) : List TV := [.s (.int .i64 x)]
theorem each_i1 (l : List Int) : Each 1 (l.map i1) := fun e he => by obtain ⟨x, _, rfl⟩ := List.mem_map.1 he; rfl
/-- A text that is short enough for a list of its runes. -/
def few (s : ByteArray) : Prop := s.size < 4398046511104
theorem few.fits {s : ByteArray} (h : few s) : fits s := Nat.lt_trans h (by decide)
theorem rlist_c {s : ByteArray} (hf : few s) : AC Tryd.prog 60 [.s (.string s)] H (fun r H' => r = .vs 1 ((rlist s).map i1) ∧ H' = H) := by
  refine AC.body Tryd.func60 rfl rfl (n := 22) (res := [.tmp 2]) rfl rfl (by simp) ?_
  simp only [ent]
  have hz : s.size < 4398046511104 := hf
  (repeat' (first | refine wk ?_ | refine wk2 ?_ ?_ | with_reducible refine wkF fun _ _ _ => ?_ | with_reducible intro _ | exact ag | fail))
  refine ARun.rounds (fun st : Nat × Nat × List Int × Nat => ⟨[(0, .s (.string (s.extract st.2.1 s.size))), (3, ownT st.2.2.2 1 (st.2.2.1.map i1))], ownH H st.2.2.2 (st.2.2.1.map i1)⟩) (fun st => st.1)
    (fun st => st.2.1 ≤ s.size ∧ s.size ≤ st.2.1 + st.1 ∧ st.2.2.1 ++ rl s st.1 st.2.1 = rlist s ∧ st.2.2.1.length + st.1 ≤ s.size ∧ (st.2.2.1.map i1 ≠ [] → H st.2.2.2 = none)) ?_ (s.size, 0, [], 0) ⟨by simp, by simp, rfl, by simp, fun h => absurd rfl h⟩ ?_
  · rintro ⟨f, p, L, b⟩ ⟨hp, hfu, hr, hlen, hb⟩ next
    simp only [] at hp hfu hr hlen hb ⊢
    have hsz := ex_size s p s.size (Nat.le_refl _)
    by_cases hlt : p < s.size
    · obtain ⟨f, rfl⟩ : ∃ g, f = g + 1 := ⟨f - 1, by omega⟩
      rw [rl, if_pos hlt] at hr
      have hw := Nm.width_pos s p
      have hwl := width_le s p hlt
      have O := fun H => one_c (H := H) (s := s.extract p s.size) (by omega) (by unfold fits; omega)
      rw [rv_ex s p hp, decode_ex s p hp] at O
      have h1 : (0 : Int) < ((s.size - p : Nat) : Int) := by omega
      have h2 : (0 : Int) ≤ ((Utf8.decode s p).2 : Int) := by omega
      have h3 : ((Utf8.decode s p).2 : Int) ≤ ((s.size - p : Nat) : Int) := by omega
      have hx := ex_ex s p (Utf8.decode s p).2
      rw [hsz] at hx
      replace hb := later hb
      replace hr := later hr
      (repeat' (first | refine wk ?_ | refine wk2 ?_ ?_ | with_reducible refine wkF fun _ _ _ => ?_ | with_reducible intro _ | refine Calling.eq (O _) ?_ | refine Doing.fresh (oc_build1 ap87 (fun _ h => by cases h; rfl) rfl rfl (by decide) (by decide)) fun _ _ _ => ?_ | refine Doing.fresh (oc_append1 (e := i1 (rv s p)) ap87 us87 (each_i1 L) rfl rfl hb.go (by assumption) (by simp; omega) (by simp; omega)) fun _ _ _ => ?_ | exact ag | fail))
      rename_i b' hb' _
      refine ARun.weaken (next.go (f, p + (Utf8.decode s p).2, L ++ [rv s p], b') ⟨by simp only []; omega, by simp only []; omega, by simp only []; rw [← hr.go]; simp, by simp; omega, fun _ => hb'⟩ (by simp only []; omega)) ?_
      simp only [List.map_append, List.map_cons, List.map_nil]
      exact leK (Sub.refl _)
    · have h0 : decide ((0 : Int) < ((s.size - p : Nat) : Int)) = false := by simp; omega
      have hrl : rl s f p = [] := by unfold rl; split <;> simp_all
      rw [hrl, List.append_nil] at hr
      rw [← hr]
      clear hr next
      replace hb := later hb
      (repeat' (first | refine wk ?_ | refine wk2 ?_ ?_ | with_reducible refine wkF fun _ _ _ => ?_ | with_reducible intro _ | exact ag | fail))
      have hown : L.map i1 = [] ∨ ownH H b (L.map i1) b = some (.cells (L.map i1).flatten) := by
        by_cases q : L.map i1 = []
        · exact .inl q
        · exact .inr (ownH_at q)
      by_cases q : L.map i1 = []
      · rw [q]
        exact Fin.done (vs := [.nils]) ag (Sub.refl _) conv_nils ⟨rfl, rfl⟩
      · exact Fin.done (vs := [ownT b 1 (L.map i1)]) ag (Sub.own (Sub.refl _) (hb.go q)) (conv_own (Sub.own (Sub.refl _) (hb.go q)) (.inr (ownH_at q)) (hb.go q) (each_i1 _)) ⟨rfl, rfl⟩
  · simp only [ex_all, List.map_nil, ownT_nil, ownH_nil]
    exact leK (Sub.refl _)
theorem rl_len (s : ByteArray) : (rlist s).length ≤ s.size := rl_length s s.size 0
theorem rRunes_c {s : ByteArray} (hf : few s) : AC Tryd.prog 45 [.s (.string s)] H (fun r H' => r = .s (.int .i64 (runes s)) ∧ H' = H) := by
  refine AC.body Tryd.func45 rfl rfl (n := 6) (res := [.tmp 2]) rfl rfl (by simp) ?_
  simp only [ent]
  have hz : s.size < 4398046511104 := hf
  have hr : runes s = (((rlist s).map i1).length : Int) := by rw [List.length_map]; exact runes_rl s (by omega)
  rw [hr]
  (repeat' (first | refine wk ?_ | refine wk2 ?_ ?_ | with_reducible refine wkF fun _ _ _ => ?_ | with_reducible intro _ | refine Calling.eq (rlist_c hf) ?_ | exact ag | fail))
  exact fin0
theorem get_i1 {l : List Int} {i : Nat} {x : Int} (h : l[i]? = some x) : (l.map i1)[i]? = some [.s (.int .i64 x)] := by rw [List.getElem?_map, h]; rfl
theorem rstem_c {s : ByteArray} (hf : few s) : AC Tryd.prog 43 [.s (.string s)] H (fun r H' => r = .s (.bool (stem s)) ∧ H' = H) := by
  refine AC.body Tryd.func43 rfl rfl (n := 44) (res := [.tmp 2]) rfl rfl (by simp) ?_
  simp only [ent]
  have hz : s.size < 4398046511104 := hf
  have hl := rl_len s
  have C := fun H => rlist_c (H := H) hf
  rw [stem_rl]
  generalize rlist s = l at hl C
  obtain ⟨es, hes, hlen, hget⟩ : ∃ es : List (List TV), l.map i1 = es ∧ es.length = l.length ∧ ∀ (i : Nat) (x : Int), l[i]? = some x → es[i]? = some [.s (.int .i64 x)] := ⟨_, rfl, List.length_map _, fun i x h => get_i1 h⟩
  rw [hes] at C
  clear hes
  cases l with
  | nil =>
    simp only [stemL]
    clear hget
    (repeat' (first | refine wk ?_ | refine wk2 ?_ ?_ | with_reducible refine wkF fun _ _ _ => ?_ | with_reducible intro _ | refine Calling.eq (C _) ?_ | exact ag | fail))
    exact fin0
  | cons c t =>
    have h0 : (((t.length + 1 : Nat) : Int) == 0) = false := by simp; omega
    have hg := hget 0 c rfl
    replace hget := later hget
    cases hc : letR c with
    | false =>
      simp only [stemL, hc, Bool.false_and]
      (repeat' (first | refine wk ?_ | refine wk2 ?_ ?_ | with_reducible refine wkF fun _ _ _ => ?_ | with_reducible intro _ | refine Calling.eq (C _) ?_ | refine Calling.eq (rletter_c) ?_ | exact ag | fail))
      exact fin0
    | true =>
      simp only [stemL, hc, Bool.true_and]
      (repeat' (first | refine wk ?_ | refine wk2 ?_ ?_ | with_reducible refine wkF fun _ _ _ => ?_ | with_reducible intro _ | refine Calling.eq (C _) ?_ | refine Calling.eq (rletter_c) ?_ | exact ag | fail))
      refine ARun.rounds (fun i : Nat => ⟨[(3, .vs 1 es), (4, .s (.int .i64 ((i + 1 : Nat) : Int)))], H⟩) (fun i => t.length - i) (fun i => i ≤ t.length ∧ (t.drop i).all okR = t.all okR) ?_ 0 ⟨by omega, rfl⟩ ?_
      · rintro i ⟨hi, hr⟩ next
        by_cases hlt : i < t.length
        · have hgt : (c :: t)[i + 1]? = some t[i] := by simp [hlt]
          have hg2 := hget.go _ _ hgt
          have h1 : ((i + 1 : Nat) : Int) < ((t.length + 1 : Nat) : Int) := by omega
          have hw := w64s (i := i + 1) (by simp at hl; omega)
          rw [List.drop_eq_getElem_cons hlt, List.all_cons] at hr
          replace hr := later hr
          clear hgt
          generalize t[i] = x at *
          have ho : okR x = (letR x || digR x || (x == 95)) := by unfold okR; rw [Bool.eq_iff_iff]; simp
          replace ho := later ho
          have h2 : (0 : Int) ≤ ((i + 1 : Nat) : Int) := by omega
          cases q1 : letR x <;> cases q2 : digR x <;> cases q3 : (x == 95)
          all_goals
            have ho := ho.go
            rw [q1, q2, q3] at ho
            have hr := hr.go
            rw [ho] at hr
            simp only [Bool.or_true, Bool.or_false, Bool.true_or, Bool.false_or, Bool.true_and, Bool.false_and] at hr
          case false.false.false =>
            rw [← hr]
            clear hr next
            have q4 : (x != 95) = true := by simp at q3 ⊢; exact q3
            (repeat' (first | refine wk ?_ | refine wk2 ?_ ?_ | with_reducible refine wkF fun _ _ _ => ?_ | with_reducible intro _ | refine Calling.eq (rletter_c) ?_ | refine Calling.eq (rdigit_c) ?_ | exact ag | fail))
            exact fin0
          all_goals
            replace hr := later hr
            clear ho
            have q4 : (x != 95) = !(x == 95) := rfl
            rw [q3] at q4
            (repeat' (first | refine wk ?_ | refine wk2 ?_ ?_ | with_reducible refine wkF fun _ _ _ => ?_ | with_reducible intro _ | refine Calling.eq (rletter_c) ?_ | refine Calling.eq (rdigit_c) ?_ | exact ag | fail))
            exact ARun.weaken (next.go (i + 1) ⟨by omega, hr.go⟩ (by omega)) (leK (Sub.refl _))
        · have h1 : decide (((i + 1 : Nat) : Int) < ((t.length + 1 : Nat) : Int)) = false := by simp; omega
          rw [List.drop_of_length_le (by omega)] at hr
          rw [← hr]
          clear hr next
          (repeat' (first | refine wk ?_ | refine wk2 ?_ ?_ | with_reducible refine wkF fun _ _ _ => ?_ | with_reducible intro _ | exact ag | fail))
          exact fin0
      · exact leK (Sub.refl _)
theorem rparts_c {s : ByteArray} (hf : fits s) : AC Tryd.prog 42 [.s (.string s)] H (fun r H' => r = .tup [.s (.string (Nm.cutA s)), .s (.string (cutB s)), .s (.bool (Nm.has s))] ∧ H' = H) := by
  refine AC.body Tryd.func42 rfl rfl (n := 24) (res := [.tmp 2, .tmp 3, .tmp 4]) rfl rfl (by simp) ?_
  simp only [ent]
  unfold fits at hf
  have hsp := later (at_spec s)
  (repeat' (first | refine wk ?_ | refine wk2 ?_ ?_ | with_reducible refine wkF fun _ _ _ => ?_ | with_reducible intro _ | exact ag | fail))
  refine ARun.rounds (fun i : Nat => ⟨[(0, .s (.string s)), (5, .s (.int .i64 i))], H⟩) (fun i => s.size - i) (fun i => i ≤ s.size ∧ ∀ j, j < i → by_ s j ≠ 64) ?_ 0 ⟨by omega, fun j h => by omega⟩ ?_
  · rintro i ⟨hi, hno⟩ next
    replace hno := later hno
    by_cases hlt : i < s.size
    · have h1 : (i : Int) < s.size := by omega
      have hw := w64s (i := i) (by omega)
      by_cases h64 : by_ s i = 64
      · have h2 : (((by_ s i : Nat) : Int) == 64) = true := by simp; omega
        rcases hsp.go with ⟨_, _, _, g⟩ | ⟨j, hj, g1, g2, g3, g4, g5⟩
        · exact absurd h64 (g i hlt)
        · have e : j = i := by
            rcases Nat.lt_trichotomy j i with h | h | h
            · exact absurd g4 (hno.go j h)
            · exact h
            · exact absurd h64 (g5 i h)
          subst e
          rw [g1, g2, g3]
          have h3 : (0 : Int) ≤ j := by omega
          have h4 : (j : Int) ≤ s.size := by omega
          have h5 : ((j + 1 : Nat) : Int) ≤ s.size := by omega
          have h6 : (0 : Int) ≤ ((j + 1 : Nat) : Int) := by omega
          clear g1 g2 g3 g4 g5 h64 next
          (repeat' (first | refine wk ?_ | refine wk2 ?_ ?_ | with_reducible refine wkF fun _ _ _ => ?_ | with_reducible intro _ | exact ag | fail))
          refine ARun.drawB mixed [([], [0, 1, 2, 3, 4, 5, 6, 7, 8, 9], none)] (by kernel_rfl) (by rfl) ?_
          (repeat' (first | refine wk ?_ | refine wk2 ?_ ?_ | with_reducible refine wkF fun _ _ _ => ?_ | with_reducible intro _ | exact ag | fail))
          exact fin0
      · have h2 : (((by_ s i : Nat) : Int) == 64) = false := by simp; omega
        replace h64 := later h64
        (repeat' (first | refine wk ?_ | refine wk2 ?_ ?_ | with_reducible refine wkF fun _ _ _ => ?_ | with_reducible intro _ | exact ag | fail))
        exact ARun.weaken (next.go (i + 1) ⟨by omega, fun j hj => by
          rcases Nat.lt_or_ge j i with h | h
          · exact hno.go j h
          · rw [show j = i by omega]; exact h64.go⟩ (by omega)) (leK (Sub.refl _))
    · have h1 : decide ((i : Int) < s.size) = false := by simp; omega
      rcases hsp.go with ⟨g1, g2, g3, _⟩ | ⟨j, hj, _, _, _, g4, _⟩
      · rw [g1, g2, g3]
        clear g1 g2 g3 next
        (repeat' (first | refine wk ?_ | refine wk2 ?_ ?_ | with_reducible refine wkF fun _ _ _ => ?_ | with_reducible intro _ | exact ag | fail))
        exact fin0
      · exact absurd g4 (hno.go j (by omega))
  · exact leK (Sub.refl _)
theorem rversion_c {s : ByteArray} (hf : fits s) : AC Tryd.prog 44 [.s (.string s)] H (fun r H' => r = .s (.int .i64 (ver s)) ∧ H' = H) := by
  refine AC.body Tryd.func44 rfl rfl (n := 39) (res := [.tmp 2]) rfl rfl (by simp) ?_
  simp only [ent]
  by_cases hz : s.size < 1
  · have h0 : (s.size : Int) < 1 := by omega
    have hv : ver s = 0 := by unfold ver; rw [if_pos (by omega)]
    rw [hv]
    (repeat' (first | refine wk ?_ | refine wk2 ?_ ?_ | with_reducible refine wkF fun _ _ _ => ?_ | with_reducible intro _ | exact ag | fail))
    exact fin0
  have h0 : decide ((s.size : Int) < 1) = false := by simp; omega
  by_cases h3 : 3 < s.size
  · have h3' : (3 : Int) < s.size := by omega
    have hv : ver s = 0 := by unfold ver; rw [if_pos (.inr (.inl h3))]
    rw [hv]
    (repeat' (first | refine wk ?_ | refine wk2 ?_ ?_ | with_reducible refine wkF fun _ _ _ => ?_ | with_reducible intro _ | exact ag | fail))
    exact fin0
  have h3' : decide ((3 : Int) < s.size) = false := by simp; omega
  have hpos : 0 < s.size := by omega
  by_cases h48 : by_ s 0 = 48
  · have h4 : (((by_ s 0 : Nat) : Int) == 48) = true := by simp; omega
    have hv : ver s = 0 := by unfold ver; rw [if_pos (.inr (.inr h48))]
    rw [hv]
    clear hv
    (repeat' (first | refine wk ?_ | refine wk2 ?_ ?_ | with_reducible refine wkF fun _ _ _ => ?_ | with_reducible intro _ | exact ag | fail))
    exact fin0
  have h4 : (((by_ s 0 : Nat) : Int) == 48) = false := by simp; omega
  have hv : ver s = verFrom s s.size 0 0 := by unfold ver; rw [if_neg (by unfold by_ at h48; omega)]
  replace hv := later hv
  clear h48
  (repeat' (first | refine wk ?_ | refine wk2 ?_ ?_ | with_reducible refine wkF fun _ _ _ => ?_ | with_reducible intro _ | exact ag | fail))
  clear h4 h3' h0 hz
  refine ARun.rounds (fun st : Nat × Nat × Int => ⟨[(0, .s (.string s)), (3, .s (.int .i64 st.2.2)), (4, .s (.int .i64 st.2.1))], H⟩) (fun st => st.1) (fun st => s.size ≤ st.2.1 + st.1 ∧ verFrom s st.1 st.2.1 st.2.2 = ver s) ?_ (s.size, 0, 0) ⟨by simp, hv.go.symm⟩ ?_
  · rintro ⟨f, p, n⟩ ⟨hfu, hr⟩ next
    simp only [] at hfu hr ⊢
    by_cases hp : p < s.size
    · obtain ⟨f, rfl⟩ : ∃ g, f = g + 1 := ⟨f - 1, by omega⟩
      rw [verFrom, if_pos hp] at hr
      have h1 : (p : Int) < s.size := by omega
      have hw := w64s (i := p) (by omega)
      have hb8 := by_lt s p
      have hcast := cast_ hb8
      by_cases hd : 48 ≤ by_ s p ∧ by_ s p ≤ 57
      · have hdd : digR ((by_ s p : Nat) : Int) = true := by unfold digR; simp; omega
        rw [dec_ascii s p (by unfold by_ at hd; omega), if_neg (by simp only []; unfold by_ at hd; omega)] at hr
        have e : IntKind.i64.wrap (IntKind.i64.wrap (IntKind.i64.wrap (10 * n) + ((by_ s p : Nat) : Int)) - 48) = wrap64 (wrap64 (10 * n) + ((((s.get! p).toNat : Nat) : Int) - 48)) := by
          rw [w64_eq, w64_eq, w64_eq]; unfold wrap64; unfold by_; omega
        replace hr := later hr
        clear hd
        (repeat' (first | refine wk ?_ | refine wk2 ?_ ?_ | with_reducible refine wkF fun _ _ _ => ?_ | with_reducible intro _ | refine Calling.eq (rdigit_c) ?_ | exact ag | fail))
        exact ARun.weaken (next.go (f, p + 1, wrap64 (wrap64 (10 * n) + ((((s.get! p).toNat : Nat) : Int) - 48))) ⟨by simp only []; omega, hr.go⟩ (by simp only []; omega)) (leK (Sub.refl _))
      · have hdd : digR ((by_ s p : Nat) : Int) = false := by unfold digR; rw [Bool.eq_false_iff]; simp; omega
        have hr0 : ver s = 0 := by
          rw [← hr]
          by_cases ha : (s.get! p).toNat < 128
          · rw [dec_ascii s p ha, if_pos (by simp only []; unfold by_ at hd; omega)]
          · have := dec_high s p ha
            rw [if_pos (by omega)]
        rw [hr0]
        clear hr hr0 hd next
        (repeat' (first | refine wk ?_ | refine wk2 ?_ ?_ | with_reducible refine wkF fun _ _ _ => ?_ | with_reducible intro _ | refine Calling.eq (rdigit_c) ?_ | exact ag | fail))
        exact fin0
    · have h1 : decide ((p : Int) < s.size) = false := by simp; omega
      rw [verFrom_end s f p n hp] at hr
      rw [← hr]
      clear hr next
      (repeat' (first | refine wk ?_ | refine wk2 ?_ ?_ | with_reducible refine wkF fun _ _ _ => ?_ | with_reducible intro _ | exact ag | fail))
      exact fin0
  · exact leK (Sub.refl _)
theorem cutA_few {s : ByteArray} (h : few s) : few (Nm.cutA s) := Nat.lt_of_le_of_lt (cutA_size s) h
theorem cutB_few {s : ByteArray} (h : few s) : few (cutB s) := Nat.lt_of_le_of_lt (cutB_size s) h
theorem rCheck_c {s : ByteArray} (hf : few s) : AC Tryd.prog 26 [.s (.string s)] H (fun r H' => r = .s (.int .i64 (chk s)) ∧ H' = H) := by
  refine AC.body Tryd.func26 rfl rfl (n := 26) (res := [.tmp 2]) rfl rfl (by simp) ?_
  simp only [ent]
  have S := fun H => rstem_c (H := H) (cutA_few hf)
  have V := fun H => rversion_c (H := H) (cutB_few hf).fits
  have R := fun H => rRunes_c (H := H) hf
  have P := fun H => rparts_c (H := H) hf.fits
  have hc : chk s = if stem (Nm.cutA s) && !(Nm.has s && (ver (cutB s) == 0)) then (if decide (24 < runes s) then 5 else 0) else 6 := by
    unfold chk okN
    have : decide (ver (cutB s) = 0) = (ver (cutB s) == 0) := by rw [Bool.eq_iff_iff]; simp
    rw [this]
    cases stem (Nm.cutA s) <;> cases Nm.has s <;> cases (ver (cutB s) == 0) <;> simp
  rw [hc]
  clear hc
  generalize stem (Nm.cutA s) = x1 at *
  generalize Nm.has s = x2 at *
  generalize hx3 : (ver (cutB s) == 0) = x3 at *
  generalize hx4 : decide (24 < runes s) = x4 at *
  cases x1 <;> cases x2 <;> cases x3 <;> cases x4
  all_goals
    simp only [Bool.true_and, Bool.false_and, Bool.not_true, Bool.not_false, Bool.false_eq_true, if_true, if_false]
    (repeat' (first | refine wk ?_ | refine wk2 ?_ ?_ | with_reducible refine wkF fun _ _ _ => ?_ | with_reducible intro _ | refine Calling.eq (P _) ?_ | refine Calling.eq (S _) ?_ | refine Calling.eq (V _) ?_ | refine Calling.eq (R _) ?_ | exact ag | fail))
    exact fin0
end Go.Abs
/- Words and instructions: what the references make. -/
namespace Go.Abs
set_option linter.unusedSimpArgs false
set_option linter.unusedVariables false
open Go.Proofs Go.Wd
set_option linter.unusedVariables false
set_option maxRecDepth 8000
variable {H : Heap}
theorem wu64 {x : Int} (h0 : 0 ≤ x) (h1 : x < 18446744073709551616) : IntKind.u64.wrap x = x := by rw [IntKind.wrap_u64]; omega
/-- One bit more of a number. -/
theorem mod_step (x i : Nat) : x % 2 ^ (i + 1) = x % 2 ^ i ||| ((x.testBit i).toNat <<< i) := by
  refine Nat.eq_of_testBit_eq fun j => ?_
  rw [put_bit _ i _ j (Nat.mod_lt _ (Nat.two_pow_pos i)), Nat.testBit_mod_two_pow, Nat.testBit_mod_two_pow]
  by_cases hj : j = i
  · subst hj; simp
  · rw [if_neg hj]
    by_cases h : j < i
    · rw [decide_eq_true h, decide_eq_true (show j < i + 1 by omega)]
    · rw [decide_eq_false h, decide_eq_false (show ¬ j < i + 1 by omega)]
theorem put_one (x i : Nat) (hi : i < 32) (b : Bool) (hb : x.testBit i = b) : Go.bits .or .u32 ((x % 2 ^ i : Nat) : Int) (shlK .u32 ((b.toNat : Nat) : Int) (i : Nat)) = ((x % 2 ^ (i + 1) : Nat) : Int) := by
  subst hb
  have hp : 2 ^ i < 2 ^ 32 := Nat.pow_lt_pow_right (by decide) hi
  have h1 : x % 2 ^ i < 2 ^ 32 := Nat.lt_trans (Nat.mod_lt _ (Nat.two_pow_pos i)) hp
  have : (x.testBit i).toNat <<< i < 2 ^ 32 := by
    rw [Nat.shiftLeft_eq]
    cases x.testBit i <;> simp <;> omega
  rw [wshl (by omega), or_nat _ _ h1 (Nat.mod_lt _ (by decide)), Nat.mod_eq_of_lt this, ← mod_step]
end Go.Abs
/- Instructions: what the references make. -/
namespace Go.Abs
set_option linter.unusedSimpArgs false
set_option linter.unusedVariables false
open Go.Proofs Go.Wd
set_option linter.unusedVariables false
set_option maxRecDepth 8000
variable {H : Heap}
theorem enc_low {o d a b : Nat} {i : Int} (low : Nat) (hl : low < 2 ^ 21) (e : cutN i ||| b = low) : withN (withN (withN (withN 0 27 5 o) 24 3 d) 21 3 a) 0 21 low = encN o d a b i := by
  unfold encN
  rw [e]
  have hl2 : low < 2 ^ 32 := by omega
  refine word_ext (withN_lt _ _ _ _) (withN_lt _ _ _ _) fun j hj => ?_
  rw [withN_bit _ _ _ _ _ (withN_lt _ _ _ _) (by decide) hj, withN_bit _ _ _ _ _ (withN_lt _ _ _ _) (by decide) hj, withN_bit _ _ _ _ _ (withN_lt _ _ _ _) (by decide) hj, withN_bit _ _ _ _ _ (by decide) (by decide) hj,
    withN_bit _ _ _ _ _ (withN_lt _ _ _ _) (by decide) hj, withN_bit _ _ _ _ _ (withN_lt _ _ _ _) (by decide) hj, withN_bit _ _ _ _ _ hl2 (by decide) hj]
  repeat' split
  all_goals first | rfl | (exfalso; omega) | (simp; done) | skip
  all_goals (have hz := bit_out hl (i := j) (by omega); simp [hz])
end Go.Abs
/- The document's answer about modules: sizes, names, texts that stand twice, words. -/
namespace Go.Abs
set_option linter.unusedSimpArgs false
set_option linter.unusedVariables false
open Go.Proofs Go.Nm Go.Wd
set_option linter.unusedVariables false
set_option maxRecDepth 8000
variable {H : Heap}
def Mod.big (m : Mod) : Bool := decide ((8 : Int) < m.ex.length) || (decide ((16 : Int) < m.im.length) || (decide ((512 : Int) < m.co.length) || (decide ((128 : Int) < m.da.length) || decide ((256 : Int) < m.re.length))))
theorem obj_alt (m : Mod) : m.obj = if m.big then 5 else if longB m.nm || (decide (0 ≤ fi longB m.ex) || decide (0 ≤ fi longB m.im)) then 5 else if decide (0 ≤ fi kindB m.re) then 2 else 0 := by
  unfold Mod.obj Mod.big
  generalize decide ((8 : Int) < m.ex.length) = a
  generalize decide ((16 : Int) < m.im.length) = b
  generalize decide ((512 : Int) < m.co.length) = c
  generalize decide ((128 : Int) < m.da.length) = d
  generalize decide ((256 : Int) < m.re.length) = e
  cases a <;> cases b <;> cases c <;> cases d <;> cases e <;> rfl
end Go.Abs
/- The document's answer about modules: names, texts that stand twice, words. -/
namespace Go.Abs
set_option linter.unusedSimpArgs false
set_option linter.unusedVariables false
open Go.Proofs Go.Nm Go.Wd
set_option linter.unusedVariables false
set_option maxRecDepth 8000
variable {H : Heap}
def Mod.nmI (m : Mod) : Int := if badN m.nm then 0 else if decide (0 ≤ fi badN m.ex) then 1 + fi badN m.ex else if decide (0 ≤ fi badN m.im) then 9 + fi badN m.im else -1
/-- All texts are short. -/
structure Mod.short (m : Mod) : Prop where
  nm : few m.nm
  ex : ∀ s ∈ m.ex, few s
  im : ∀ s ∈ m.im, few s
theorem dup_yes {l : List ByteArray} {i k : Nat} {x y : ByteArray} (hx : l[i]? = some x) (hk : k < i) (hy : l[k]? = some y) (h : (x.toList == y.toList) = true) (hn : noneB (fun y => x.toList == y.toList) l k) : dup l i = true := by
  unfold dup
  rw [hx]
  have : fi (fun y => x.toList == y.toList) (l.take i) = k := fi_some (x := y) (by rw [List.getElem?_take_of_lt hk]; exact hy) h (fun j z hj hz => hn j z hj (by rw [List.getElem?_take_of_lt (by omega)] at hz; exact hz))
  simp only [this]; simp
theorem dup_no {l : List ByteArray} {i : Nat} {x : ByteArray} (hx : l[i]? = some x) (hn : noneB (fun y => x.toList == y.toList) l i) : dup l i = false := by
  unfold dup
  rw [hx]
  have : fi (fun y => x.toList == y.toList) (l.take i) = -1 := fi_end (i := i) (by rw [List.length_take]; omega) (fun j z hj hz => hn j z hj (by rw [List.getElem?_take_of_lt (by omega)] at hz; exact hz))
  simp only [this]; rfl
end Go.Abs
/- The document's answer about modules: texts that stand twice, words, places. -/
namespace Go.Abs
set_option linter.unusedSimpArgs false
set_option linter.unusedVariables false
open Go.Proofs Go.Nm Go.Wd
set_option linter.unusedVariables false
set_option maxRecDepth 8000
variable {H : Heap}
def Mod.twI (m : Mod) : Int := if decide (0 ≤ rep m.ex) then rep m.ex else if decide (0 ≤ rep m.im) then IntKind.i64.wrap (8 + rep m.im) else -1
theorem six (k : Int) : (k == 0) = true ∨ ((k == 0) = false ∧ (k == 1) = true) ∨ ((k == 0) = false ∧ (k == 1) = false ∧ (k == 4) = true) ∨ ((k == 0) = false ∧ (k == 1) = false ∧ (k == 4) = false ∧ (k == 2) = true) ∨ ((k == 0) = false ∧ (k == 1) = false ∧ (k == 4) = false ∧ (k == 2) = false ∧ (k == 5) = true) ∨
    ((k == 0) = false ∧ (k == 1) = false ∧ (k == 4) = false ∧ (k == 2) = false ∧ (k == 5) = false) := by
  cases (k == 0) <;> cases (k == 1) <;> cases (k == 4) <;> cases (k == 2) <;> cases (k == 5) <;> simp
end Go.Abs
/- The document's answer about modules: places, kinds, calls that nothing names. -/
namespace Go.Abs
set_option linter.unusedSimpArgs false
set_option linter.unusedVariables false
open Go.Proofs Go.Nm Go.Wd
set_option linter.unusedVariables false
set_option maxRecDepth 8000
variable {H : Heap}
theorem call_parts {w : Nat} (h : (dec w).o = 17) : (dec w).d = 0 ∧ (dec w).a = 0 ∧ (dec w).b = 0 := by
  unfold dec at h ⊢
  by_cases hk : insOk w = true
  · rw [if_pos hk] at h ⊢
    unfold insOk at hk
    have hc : (parts w).chk = 0 := by have := (Bool.and_eq_true_iff.1 hk).1; simpa using this
    unfold Ins.chk at hc
    obtain ⟨_, h1, h2, h3, _, _, _⟩ := check_zero hc
    rw [h] at h1 h2 h3
    simp [usesR, regR] at h1 h2 h3
    omega
  · rw [if_neg hk] at h; cases h
theorem same_call (w : Nat) : same5 (dec w) ⟨17, 0, 0, 0, 0⟩ = ((((dec w).o : Int) == 17) && ((dec w).i == 0)) := by
  unfold same5
  cases q : (((dec w).o : Int) == 17) with
  | false => simp
  | true =>
    have h : (dec w).o = 17 := by have := (beq_iff_eq.1 q); omega
    obtain ⟨h1, h2, h3⟩ := call_parts h
    rw [h1, h2, h3]; simp
theorem inB_cons {α : Type} [DecidableEq α] {k : α} {ks : List α} {a : α} : inB k (ks ++ [a]) = (inB k ks || decide (k = a)) := by
  unfold inB; rw [Bool.eq_iff_iff]; simp
theorem spots_get {m : Mod} {i k : Nat} {y : Rlc} (hk : k < i) (hy : m.re[k]? = some y) : y.spot ∈ (m.re.take i).map Rlc.spot :=
  List.mem_map.2 ⟨y, List.mem_of_getElem? (i := k) (by rw [List.getElem?_take_of_lt hk]; exact hy), rfl⟩
/-- Do two relocations name one word? -/
def hitB (x y : Rlc) : Bool := ((y.a : Int) == (x.a : Int)) && (y.spot.1 == x.spot.1)
theorem hit_spot {x y : Rlc} (h : hitB x y = true) : y.spot = x.spot := by
  unfold hitB at h
  obtain ⟨h1, h2⟩ := Bool.and_eq_true_iff.1 h
  have h3 : y.a = x.a := by have := beq_iff_eq.1 h1; omega
  have h4 := beq_iff_eq.1 h2
  exact Prod.ext h4 h3
theorem spot_hit {x y : Rlc} (h : y.spot = x.spot) : hitB x y = true := by
  unfold hitB
  have h1 : y.a = x.a := congrArg Prod.snd h
  rw [h, h1]; simp
theorem badP_far {m : Mod} {i : Nat} {x : Rlc} (hx : m.re[i]? = some x) (h : decide (((m.len x : Nat) : Int) ≤ (x.a : Int)) = true) : m.badP i = true := by
  unfold Mod.badP; rw [hx]; simp only [h, Bool.or_true]
theorem badP_hit {m : Mod} {i k : Nat} {x y : Rlc} (hx : m.re[i]? = some x) (hk : k < i) (hy : m.re[k]? = some y) (h : hitB x y = true) : m.badP i = true := by
  have := spots_get hk hy
  rw [hit_spot h] at this
  unfold Mod.badP; rw [hx]; simp only [inB, this, decide_true, Bool.true_or]
theorem badP_not {m : Mod} {i : Nat} {x : Rlc} (hx : m.re[i]? = some x) (h : decide (((m.len x : Nat) : Int) ≤ (x.a : Int)) = false) (hn : noneB (hitB x) m.re i) : m.badP i = false := by
  unfold Mod.badP; rw [hx]; simp only [h, Bool.or_false, inB]
  rw [decide_eq_false_iff_not]
  intro hm
  obtain ⟨y, hy, he⟩ := List.mem_map.1 hm
  obtain ⟨j, hj⟩ := List.mem_iff_getElem?.1 hy
  by_cases hji : j < i
  · rw [List.getElem?_take_of_lt hji] at hj
    have := hn j y hji hj
    rw [spot_hit he] at this; cases this
  · rw [List.getElem?_eq_none (by rw [List.length_take]; omega)] at hj; cases hj
end Go.Abs
/- The document's answer about modules: kinds, calls that nothing names. -/
namespace Go.Abs
set_option linter.unusedSimpArgs false
set_option linter.unusedVariables false
open Go.Proofs Go.Nm Go.Wd
set_option linter.unusedVariables false
set_option maxRecDepth 8000
variable {H : Heap}
theorem neT {a b : Int} (h : (a == b) = true) : (a != b) = false := by rw [bne, h]; rfl
theorem neF {a b : Int} (h : (a == b) = false) : (a != b) = true := by rw [bne, h]; rfl
theorem nfit_alt {m : Mod} {r : Rlc} : (!m.fit r) = if r.spot.1 then ((!(((dec (m.co.getD r.a 0)).o : Int) == if ((r.k : Int) == 0) || ((r.k : Int) == 7) then 17 else 2)) || !((dec (m.co.getD r.a 0)).i == 0)) else !(((m.da.getD r.a 0 : Nat) : Int) == 0) := by
  unfold Mod.fit
  rw [same_call]
  cases r.spot.1
  · simp
  · simp only [if_true]
    cases ((r.k : Int) == 0) || ((r.k : Int) == 7) <;> simp [Bool.not_and]
end Go.Abs
/- The document's answer about modules: calls that nothing names, and all in all. -/
namespace Go.Abs
set_option linter.unusedSimpArgs false
set_option linter.unusedVariables false
open Go.Proofs Go.Nm Go.Wd
set_option linter.unusedVariables false
set_option maxRecDepth 8000
variable {H : Heap}
theorem acc_succ {m : Mod} {i k : Nat} {y : Rlc} (hy : m.re[k]? = some y) : inB (true, i) ((m.re.take (k + 1)).map Rlc.spot) = (inB (true, i) ((m.re.take k).map Rlc.spot) || (((y.a : Int) == (i : Int)) && y.spot.1)) := by
  rw [← spots_succ hy, inB_cons]
  congr 1
  have : y.spot = (y.spot.1, y.a) := rfl
  rw [this]
  rw [Bool.eq_iff_iff]
  simp
  constructor
  · rintro ⟨h1, h2⟩; exact ⟨by omega, h1⟩
  · rintro ⟨h1, h2⟩; exact ⟨h2, by omega⟩
theorem fi_cons {α : Type} (p : α → Bool) (x : α) (l : List α) : fi p (x :: l) = if p x then 0 else if decide (0 ≤ fi p l) then fi p l + 1 else -1 := by
  unfold fi
  rw [List.findIdx?_cons]
  cases p x with
  | true => rfl
  | false =>
    simp only [Bool.false_eq_true, if_false]
    cases l.findIdx? p with
    | none => rfl
    | some j => simp
theorem fi_lt {α : Type} (p : α → Bool) (l : List α) : fi p l < l.length + 1 ∧ -1 ≤ fi p l := by
  unfold fi
  cases h : l.findIdx? p with
  | none => constructor <;> simp <;> omega
  | some j =>
    have := (List.findIdx?_eq_some_iff_getElem.1 h).1
    constructor
    · simp only; omega
    · simp only; omega
theorem fi_neg {α : Type} {p : α → Bool} {l : List α} (h : decide (0 ≤ fi p l) = false) : fi p l = -1 := by
  have := (fi_lt p l).2
  have := of_decide_eq_false h
  omega
/-- Names, then texts that stand twice: what both sides tell. -/
theorem txt_alt {m : Mod} (h : m.obj = 0) : m.txt = if decide (0 ≤ m.nmI) then (2, m.nmI) else if decide (0 ≤ m.twI) then (3, m.twI) else (0, 0) := by
  obtain ⟨b1, b2, b3, b4, b5⟩ := obj_small (m := m) (by rw [h]; rfl)
  have x1 := fi_lt badN m.ex
  have x2 := fi_lt badN m.im
  have x3 := fi_lt (dup m.ex) (List.range m.ex.length)
  have x4 := fi_lt (dup m.im) (List.range m.im.length)
  rw [List.length_range] at x3 x4
  have w1 : IntKind.i64.wrap (9 + fi badN m.im) = 9 + fi badN m.im := wi64 (by omega) (by omega)
  have w2 : IntKind.i64.wrap (8 + rep m.im) = 8 + rep m.im := by unfold rep; exact wi64 (by omega) (by omega)
  unfold Mod.txt Mod.nmI Mod.twI
  rw [w1, w2, fi_cons]
  unfold rep
  generalize fi badN m.ex = a at *
  generalize fi badN m.im = b at *
  generalize fi (dup m.ex) (List.range m.ex.length) = c at *
  generalize fi (dup m.im) (List.range m.im.length) = d at *
  cases badN m.nm
  · by_cases h1 : 0 ≤ a
    · have e : decide (0 ≤ a) = true := by simpa using h1
      have e2 : decide (0 ≤ a + 1) = true := by simp; omega
      have e3 : decide (0 ≤ 1 + a) = true := by simp; omega
      simp [e, e2, e3, Int.add_comm]
    · have e : decide (0 ≤ a) = false := by simpa using h1
      by_cases h2 : 0 ≤ b
      · have f : decide (0 ≤ b) = true := by simpa using h2
        have f2 : decide (0 ≤ 9 + b) = true := by simp; omega
        simp [e, f, f2]
      · have f : decide (0 ≤ b) = false := by simpa using h2
        by_cases h3 : 0 ≤ c
        · have g : decide (0 ≤ c) = true := by simpa using h3
          simp [e, f, g]
        · have g : decide (0 ≤ c) = false := by simpa using h3
          by_cases h4 : 0 ≤ d
          · have k : decide (0 ≤ d) = true := by simpa using h4
            have k2 : decide (0 ≤ 8 + d) = true := by simp; omega
            simp [e, f, g, k, k2]
          · have k : decide (0 ≤ d) = false := by simpa using h4
            simp [e, f, g, k]
  · simp
end Go.Abs
/- The document's answer about modules, all in all. -/
namespace Go.Abs
set_option linter.unusedSimpArgs false
set_option linter.unusedVariables false
open Go.Proofs Go.Nm Go.Wd
set_option linter.unusedVariables false
set_option maxRecDepth 8000
variable {H : Heap}
theorem fi_all {α : Type} {p : α → Bool} {l : List α} (h : decide (0 ≤ fi p l) = false) : ∀ x ∈ l, p x = false := by
  unfold fi at h
  cases hf : l.findIdx? p with
  | none => exact List.findIdx?_eq_none_iff.1 hf
  | some j => rw [hf] at h; simp at h
theorem obj_zero {m : Mod} (h : m.obj = 0) : m.short ∧ (∀ r ∈ m.re, (r.k : Int) ≤ 7) := by
  rw [obj_alt] at h
  cases q0 : m.big with
  | true => rw [q0, if_pos rfl] at h; cases h
  | false =>
    rw [q0, if_neg (by decide)] at h
    cases q1 : longB m.nm || (decide (0 ≤ fi longB m.ex) || decide (0 ≤ fi longB m.im)) with
    | true => rw [q1, if_pos rfl] at h; cases h
    | false =>
      rw [q1, if_neg (by decide)] at h
      cases q2 : decide (0 ≤ fi kindB m.re) with
      | true => rw [q2, if_pos rfl] at h; cases h
      | false =>
        simp only [Bool.or_eq_false_iff] at q1
        obtain ⟨a, b, c⟩ := q1
        have lf : ∀ s, longB s = false → few s := fun s hs => by unfold longB at hs; unfold few; simp at hs; omega
        refine ⟨⟨lf _ a, fun s hs => lf s (fi_all b s hs), fun s hs => lf s (fi_all c s hs)⟩, fun r hr => ?_⟩
        have := fi_all q2 r hr
        unfold kindB at this; simp at this; omega
theorem places_all {m : Mod} (h : decide (0 ≤ fi m.badP (List.range m.re.length)) = false) : ∀ r ∈ m.re, r.a < m.len r := by
  intro r hr
  obtain ⟨j, hj⟩ := List.mem_iff_getElem?.1 hr
  have hjl := (List.getElem?_eq_some_iff.1 hj).1
  have := fi_all h j (by simpa using hjl)
  unfold Mod.badP at this
  rw [hj] at this
  have := of_decide_eq_false (Bool.or_eq_false_iff.1 this).2
  omega
end Go.Abs
/- The document's answer about modules: sameness and size; patches. -/
namespace Go.Abs
set_option linter.unusedSimpArgs false
set_option linter.unusedVariables false
set_option maxHeartbeats 4000000
open Go.Proofs Go.Nm Go.Wd
set_option linter.unusedVariables false
set_option maxRecDepth 8000
variable {H : Heap}
theorem sameW_c (L M : List Nat) (hL : L.length < 4611686018427387904) (H : Heap) :
    AC Tryd.prog 13 [.vs 1 (L.map u1), .vs 1 (M.map u1)] H (fun r H' => r = .s (.bool (decide (L = M))) ∧ H' = H) := by
  refine AC.body Tryd.func13 rfl rfl (n := 26) (res := [.tmp 4]) rfl rfl (by simp) ?_
  simp only [ent]
  by_cases hl : L.length = M.length
  · have hb : (((L.length : Nat) : Int) != ((M.length : Nat) : Int)) = false := by simp; omega
    replace hl := later hl
    (repeat' (first | refine wk ?_ | refine wk2 ?_ ?_ | with_reducible refine wkF fun _ _ _ => ?_ | with_reducible intro _ | exact ag | fail))
    clear hb
    refine ARun.rounds (fun i : Nat => ⟨[(0, .vs 1 (L.map u1)), (1, .vs 1 (M.map u1)), (5, .s (.int .i64 i))], H⟩) (fun i => L.length - i) (fun i => i ≤ L.length ∧ ∀ j, j < i → L[j]? = M[j]?) ?_ 0 ⟨by omega, fun j h => by omega⟩ ?_
    · rintro i ⟨hi, hno⟩ next
      replace hno := later hno
      by_cases hlt : i < L.length
      · have h1 : (i : Int) < L.length := by omega
        have h2 : (0 : Int) ≤ i := by omega
        obtain ⟨x, hx⟩ := at_ hlt
        obtain ⟨y, hy⟩ := at_ (l := M) (i := i) (by have := hl.go; omega)
        have hx1 := vget u1 hx
        have hy1 := vget u1 hy
        have hw := w64s (i := i) (by omega)
        simp only [u1_def] at hx1 hy1
        replace hx := later hx
        replace hy := later hy
        by_cases hxy : x = y
        · have hq : (((x : Int) != (y : Int))) = false := by subst hxy; simp
          replace hxy := later hxy
          (repeat' (first | refine wk ?_ | refine wk2 ?_ ?_ | with_reducible refine wkF fun _ _ _ => ?_ | with_reducible intro _ | exact ag | fail))
          refine ARun.drawB mixed [([], [0, 1, 2, 3, 4, 5, 6, 7, 8], none)] (by kernel_rfl) (by rfl) ?_
          (repeat' (first | refine wk ?_ | refine wk2 ?_ ?_ | with_reducible refine wkF fun _ _ _ => ?_ | with_reducible intro _ | exact ag | fail))
          exact ARun.weaken (next.go (i + 1) ⟨by omega, fun j hj => by
            rcases Nat.lt_or_ge j i with h | h
            · exact hno.go j h
            · rw [show j = i by omega, hx.go, hy.go, hxy.go]⟩ (by omega)) (leK (Sub.refl _))
        · have hq : (((x : Int) != (y : Int))) = true := by simp [toList_inj]; exact fun e => hxy (by first | exact e | omega)
          have hne : decide (L = M) = false := by
            simp only [decide_eq_false_iff_not]; intro e
            have h3 := hx.go; rw [e, hy.go] at h3; cases h3; exact hxy rfl
          rw [hne]
          clear hne next hxy
          (repeat' (first | refine wk ?_ | refine wk2 ?_ ?_ | with_reducible refine wkF fun _ _ _ => ?_ | with_reducible intro _ | exact ag | fail))
          refine ARun.drawB mixed [([], [0, 1, 2, 3, 4, 5, 6, 7, 8], none)] (by kernel_rfl) (by rfl) ?_
          (repeat' (first | refine wk ?_ | refine wk2 ?_ ?_ | with_reducible refine wkF fun _ _ _ => ?_ | with_reducible intro _ | exact ag | fail))
          exact fin0
      · have h1 : decide ((i : Int) < L.length) = false := by simp; omega
        have he : decide (L = M) = true := by
          simp only [decide_eq_true_eq]
          refine List.ext_getElem? fun j => ?_
          rcases Nat.lt_or_ge j i with h | h
          · exact hno.go j h
          · have := hl.go; rw [List.getElem?_eq_none (by omega), List.getElem?_eq_none (by omega)]
        rw [he]
        clear he next
        (repeat' (first | refine wk ?_ | refine wk2 ?_ ?_ | with_reducible refine wkF fun _ _ _ => ?_ | with_reducible intro _ | exact ag | fail))
        exact fin0
    · exact leK (Sub.refl _)
  · have hb : (((L.length : Nat) : Int) != ((M.length : Nat) : Int)) = true := by simp; omega
    have hne : decide (L = M) = false := by simp only [decide_eq_false_iff_not]; rintro rfl; exact hl rfl
    rw [hne]
    clear hne
    (repeat' (first | refine wk ?_ | refine wk2 ?_ ?_ | with_reducible refine wkF fun _ _ _ => ?_ | with_reducible intro _ | exact ag | fail))
    exact fin0

def mn (i : Nat) : Int := if (65536 : Int) < (i : Int) then 65536 else (i : Int)
def Mod.size (m : Mod) : Int :=
  if decide ((m.ex.length : Int) ≤ 65536) then (if decide ((m.ex.length : Int) + mn m.im.length ≤ 65536) then (if decide ((m.ex.length : Int) + mn m.im.length + mn m.co.length ≤ 65536) then (if decide ((m.ex.length : Int) + mn m.im.length + mn m.co.length + mn m.da.length ≤ 65536) then (m.ex.length : Int) + mn m.im.length + mn m.co.length + mn m.da.length + mn m.re.length
    else (m.ex.length : Int) + mn m.im.length + mn m.co.length + mn m.da.length) else (m.ex.length : Int) + mn m.im.length + mn m.co.length) else (m.ex.length : Int) + mn m.im.length) else m.ex.length
theorem mn_le (i : Nat) : 0 ≤ mn i ∧ mn i ≤ 65536 := by unfold mn; split <;> omega
theorem mn_small {i : Nat} (h : mn i ≤ 2000) : i ≤ 2000 := by unfold mn at h; split at h <;> omega
theorem size_small {m : Mod} (h : m.size ≤ 2000) : m.ex.length ≤ 2000 ∧ m.im.length ≤ 2000 ∧ m.co.length ≤ 2000 ∧ m.da.length ≤ 2000 ∧ m.re.length ≤ 2000 := by
  unfold Mod.size at h
  have a1 := mn_le m.im.length
  have a2 := mn_le m.co.length
  have a3 := mn_le m.da.length
  have a4 := mn_le m.re.length
  have b1 := @mn_small m.im.length
  have b2 := @mn_small m.co.length
  have b3 := @mn_small m.da.length
  have b4 := @mn_small m.re.length
  generalize mn m.im.length = x1 at *
  generalize mn m.co.length = x2 at *
  generalize mn m.da.length = x3 at *
  generalize mn m.re.length = x4 at *
  simp only [decide_eq_true_eq] at h
  split at h
  · split at h
    · split at h
      · split at h
        · exact ⟨by omega, b1 (by omega), b2 (by omega), b3 (by omega), b4 (by omega)⟩
        · omega
      · omega
    · omega
  · omega
theorem rsize_c (m : Mod) (H : Heap) : AC Tryd.prog 14 [m.tv] H (fun r H' => r = .s (.int .i64 m.size) ∧ H' = H) := by
  refine AC.body Tryd.func14 rfl rfl (n := 38) (res := [.tmp 2]) rfl rfl (by simp) ?_
  simp only [ent]
  have d1 : (if (65536 : Int) < (m.im.length : Int) then (65536 : Int) else (m.im.length : Int)) = mn m.im.length := rfl
  have d2 : (if (65536 : Int) < (m.co.length : Int) then (65536 : Int) else (m.co.length : Int)) = mn m.co.length := rfl
  have d3 : (if (65536 : Int) < (m.da.length : Int) then (65536 : Int) else (m.da.length : Int)) = mn m.da.length := rfl
  have d4 : (if (65536 : Int) < (m.re.length : Int) then (65536 : Int) else (m.re.length : Int)) = mn m.re.length := rfl
  have a1 := mn_le m.im.length
  have a2 := mn_le m.co.length
  have a3 := mn_le m.da.length
  have a4 := mn_le m.re.length
  have hsz : m.size = if decide ((m.ex.length : Int) ≤ 65536) then (if decide ((m.ex.length : Int) + mn m.im.length ≤ 65536) then (if decide ((m.ex.length : Int) + mn m.im.length + mn m.co.length ≤ 65536) then (if decide ((m.ex.length : Int) + mn m.im.length + mn m.co.length + mn m.da.length ≤ 65536) then (m.ex.length : Int) + mn m.im.length + mn m.co.length + mn m.da.length + mn m.re.length
    else (m.ex.length : Int) + mn m.im.length + mn m.co.length + mn m.da.length) else (m.ex.length : Int) + mn m.im.length + mn m.co.length) else (m.ex.length : Int) + mn m.im.length) else m.ex.length := rfl
  rw [hsz]
  clear hsz
  simp only [Mod.tv_def]
  generalize mn m.im.length = x1 at *
  generalize mn m.co.length = x2 at *
  generalize mn m.da.length = x3 at *
  generalize mn m.re.length = x4 at *
  have i1 : IntKind.i64.wrap (0 + 1) = 1 := rfl
  have i2 : IntKind.i64.wrap (1 + 1) = 2 := rfl
  have i3 : IntKind.i64.wrap (2 + 1) = 3 := rfl
  have i4 : IntKind.i64.wrap (3 + 1) = 4 := rfl
  have fl : ∀ a b c d : Int, [[TV.s (.int .i64 a)], [TV.s (.int .i64 b)], [TV.s (.int .i64 c)], [TV.s (.int .i64 d)]].flatten = [TV.s (.int .i64 a), TV.s (.int .i64 b), TV.s (.int .i64 c), TV.s (.int .i64 d)] := fun _ _ _ _ => rfl
  cases q1 : decide ((m.ex.length : Int) ≤ 65536) with
  | false =>
    replace a1 := later a1
    replace a2 := later a2
    replace a3 := later a3
    replace a4 := later a4
    rw [if_neg (by decide)]
    (repeat' (first | refine wk ?_ | refine wk2 ?_ ?_ | with_reducible refine wkF fun _ _ _ => ?_ | with_reducible refine ARun.loop ?_ | with_reducible refine ARun.inLoop ?_ | with_reducible intro _ | refine Doing.fresh (oc_build (n := 4) (es := [[.s (.int .i64 m.im.length)], [.s (.int .i64 m.co.length)], [.s (.int .i64 m.da.length)], [.s (.int .i64 m.re.length)]]) ap87 (fun _ h => by cases h; rfl) rfl rfl rfl (.cons rfl (.cons rfl (.cons rfl (.cons rfl .nil)))) (by decide) (by decide) (by decide)) fun _ _ _ => ?_ | refine Doing.eq (oc_min) ?_ | exact ag | fail))
    exact fin0
  | true =>
    rw [if_pos rfl]
    have hq := of_decide_eq_true q1
    have w1 : IntKind.i64.wrap ((m.ex.length : Int) + x1) = (m.ex.length : Int) + x1 := wi64 (by omega) (by omega)
    have w2 : IntKind.i64.wrap ((m.ex.length : Int) + x1 + x2) = (m.ex.length : Int) + x1 + x2 := wi64 (by omega) (by omega)
    have w3 : IntKind.i64.wrap ((m.ex.length : Int) + x1 + x2 + x3) = (m.ex.length : Int) + x1 + x2 + x3 := wi64 (by omega) (by omega)
    have w4 : IntKind.i64.wrap ((m.ex.length : Int) + x1 + x2 + x3 + x4) = (m.ex.length : Int) + x1 + x2 + x3 + x4 := wi64 (by omega) (by omega)
    replace hq := later hq
    replace a1 := later a1
    replace a2 := later a2
    replace a3 := later a3
    replace a4 := later a4
    cases q2 : decide ((m.ex.length : Int) + x1 ≤ 65536) with
    | false =>
      rw [if_neg (by decide)]
      (repeat' (first | refine wk ?_ | refine wk2 ?_ ?_ | with_reducible refine wkF fun _ _ _ => ?_ | with_reducible refine ARun.loop ?_ | with_reducible refine ARun.inLoop ?_ | with_reducible intro _ | refine Doing.fresh (oc_build (n := 4) (es := [[.s (.int .i64 m.im.length)], [.s (.int .i64 m.co.length)], [.s (.int .i64 m.da.length)], [.s (.int .i64 m.re.length)]]) ap87 (fun _ h => by cases h; rfl) rfl rfl rfl (.cons rfl (.cons rfl (.cons rfl (.cons rfl .nil)))) (by decide) (by decide) (by decide)) fun _ _ _ => ?_ | refine Doing.eq (oc_min) ?_ | exact ag | fail))
      exact fin0
    | true =>
      rw [if_pos rfl]
      cases q3 : decide ((m.ex.length : Int) + x1 + x2 ≤ 65536) with
      | false =>
        rw [if_neg (by decide)]
        (repeat' (first | refine wk ?_ | refine wk2 ?_ ?_ | with_reducible refine wkF fun _ _ _ => ?_ | with_reducible refine ARun.loop ?_ | with_reducible refine ARun.inLoop ?_ | with_reducible intro _ | refine Doing.fresh (oc_build (n := 4) (es := [[.s (.int .i64 m.im.length)], [.s (.int .i64 m.co.length)], [.s (.int .i64 m.da.length)], [.s (.int .i64 m.re.length)]]) ap87 (fun _ h => by cases h; rfl) rfl rfl rfl (.cons rfl (.cons rfl (.cons rfl (.cons rfl .nil)))) (by decide) (by decide) (by decide)) fun _ _ _ => ?_ | refine Doing.eq (oc_min) ?_ | exact ag | fail))
        exact fin0
      | true =>
        rw [if_pos rfl]
        cases q4 : decide ((m.ex.length : Int) + x1 + x2 + x3 ≤ 65536) with
        | false =>
          rw [if_neg (by decide)]
          (repeat' (first | refine wk ?_ | refine wk2 ?_ ?_ | with_reducible refine wkF fun _ _ _ => ?_ | with_reducible refine ARun.loop ?_ | with_reducible refine ARun.inLoop ?_ | with_reducible intro _ | refine Doing.fresh (oc_build (n := 4) (es := [[.s (.int .i64 m.im.length)], [.s (.int .i64 m.co.length)], [.s (.int .i64 m.da.length)], [.s (.int .i64 m.re.length)]]) ap87 (fun _ h => by cases h; rfl) rfl rfl rfl (.cons rfl (.cons rfl (.cons rfl (.cons rfl .nil)))) (by decide) (by decide) (by decide)) fun _ _ _ => ?_ | refine Doing.eq (oc_min) ?_ | exact ag | fail))
          exact fin0
        | true =>
          rw [if_pos rfl]
          (repeat' (first | refine wk ?_ | refine wk2 ?_ ?_ | with_reducible refine wkF fun _ _ _ => ?_ | with_reducible refine ARun.loop ?_ | with_reducible refine ARun.inLoop ?_ | with_reducible intro _ | refine Doing.fresh (oc_build (n := 4) (es := [[.s (.int .i64 m.im.length)], [.s (.int .i64 m.co.length)], [.s (.int .i64 m.da.length)], [.s (.int .i64 m.re.length)]]) ap87 (fun _ h => by cases h; rfl) rfl rfl rfl (.cons rfl (.cons rfl (.cons rfl (.cons rfl .nil)))) (by decide) (by decide) (by decide)) fun _ _ _ => ?_ | refine Doing.eq (oc_min) ?_ | exact ag | fail))
          exact fin0
end Go.Abs
/- Are two modules the same? -/
namespace Go.Abs
set_option linter.unusedSimpArgs false
set_option linter.unusedVariables false
open Go.Proofs Go.Nm Go.Wd
set_option linter.unusedVariables false
set_option maxRecDepth 8000
variable {H : Heap}
@[go_sem] theorem egR : Tryd.prog.eqGuardType Tryd.prog.depth 64 = false := by kernel_rfl
@[go_sem] theorem eqR (a b c a' b' c' : Int) : eqTV Tryd.prog 9 64 (.agg [.s (.int .u8 a), .s (.int .u16 b), .s (.int .u16 c)]) (.agg [.s (.int .u8 a'), .s (.int .u16 b'), .s (.int .u16 c')]) =
    some ((a == a') && ((b == b') && ((c == c') && true))) := by kernel_rfl
theorem eqR_iff (x y : Rlc) : (((x.k : Int) == (y.k : Int)) && (((x.a : Int) == (y.a : Int)) && (((x.w : Int) == (y.w : Int)) && true))) = decide (x = y) := by
  obtain ⟨a, b, c⟩ := x; obtain ⟨a', b', c'⟩ := y
  rw [Bool.eq_iff_iff]; simp; omega
end Go.Abs
/- A module, copied; what is told of a module whose rows are one's own. -/
namespace Go.Abs
set_option linter.unusedSimpArgs false
set_option linter.unusedVariables false
open Go.Proofs Go.Nm Go.Wd
set_option linter.unusedVariables false
set_option maxRecDepth 8000
variable {H : Heap}
theorem each_u1 (l : List Nat) : Each 1 (l.map u1) := fun e he => by obtain ⟨x, _, rfl⟩ := List.mem_map.1 he; rfl
theorem each_relE (l : List Rlc) : Each 3 (l.map relE) := fun e he => by obtain ⟨x, _, rfl⟩ := List.mem_map.1 he; rfl
theorem one_u1 (l : List Nat) : (l.map u1).flatten.all oneT = true := by
  induction l with
  | nil => rfl
  | cons x l ih => rw [List.map_cons, List.flatten_cons, List.all_append, ih]; rfl
theorem one_relE (l : List Rlc) : (l.map relE).flatten.all oneT = true := by
  induction l with
  | nil => rfl
  | cons x l ih => rw [List.map_cons, List.flatten_cons, List.all_append, ih]; rfl
/-- A module's rows, in blocks. -/
def Mod.rows (m : Mod) (b1 b2 b3 b4 b5 : Nat) : List Row := [(b1, 1, m.ex.map s1), (b2, 1, m.im.map s1), (b3, 1, m.co.map u1), (b4, 1, m.da.map u1), (b5, 3, m.re.map relE)]
theorem Mod.rows_def (m : Mod) (b1 b2 b3 b4 b5 : Nat) : m.rows b1 b2 b3 b4 b5 = [(b1, 1, m.ex.map s1), (b2, 1, m.im.map s1), (b3, 1, m.co.map u1), (b4, 1, m.da.map u1), (b5, 3, m.re.map relE)] := rfl
def Mod.own (m : Mod) (b1 b2 b3 b4 b5 : Nat) : TV := .agg [.s (.string m.nm), ownT b1 1 (m.ex.map s1), ownT b2 1 (m.im.map s1), ownT b3 1 (m.co.map u1), ownT b4 1 (m.da.map u1), ownT b5 3 (m.re.map relE)]
theorem Mod.own_def (m : Mod) (b1 b2 b3 b4 b5 : Nat) : m.own b1 b2 b3 b4 b5 = .agg [.s (.string m.nm), ownT b1 1 (m.ex.map s1), ownT b2 1 (m.im.map s1), ownT b3 1 (m.co.map u1), ownT b4 1 (m.da.map u1), ownT b5 3 (m.re.map relE)] := rfl
/-- No list is long. -/
structure Mod.little (m : Mod) : Prop where
  ex : m.ex.length ≤ 2000
  im : m.im.length ≤ 2000
  co : m.co.length ≤ 2000
  da : m.da.length ≤ 2000
  re : m.re.length ≤ 2000
theorem Doing.ownK {P : Program} {o : Oper} {vs : List TV} {Z : TV → Heap → Prop} {k : Nat} {L : List (List TV)} {H H0 : Heap} {rows : List Row} (hO : Owns H0 H rows) (v t : Nat) {cv ct : Root} (hv : H v = some cv) (ht : H t = some ct)
    (h : OC P o vs H (fun r H' => ∃ b, H b = none ∧ r = ownT b k L ∧ H' = ownH H b L)) (z : ∀ b K', Owns H0 K' (rows ++ [(b, k, L)]) → b ≠ t → K' v = some cv → K' t = some ct → Z (ownT b k L) K') : Doing P o vs H Z :=
  Doing.by h fun r H' ⟨b, hb, h1, h2⟩ => by
    rw [h1, h2]
    have nv := none_at hb hv
    have nt := none_at hb ht
    exact z b _ (hO.snoc hb) (fun e => nt e.symm) (by rw [ownH_ne (eq_false nv)]; exact hv) (by rw [ownH_ne (eq_false nt)]; exact ht)
end Go.Abs
/- What is told of modules whose rows are one's own; what every right program tells of some modules. -/
namespace Go.Abs
set_option linter.unusedSimpArgs false
set_option linter.unusedVariables false
open Go.Proofs Go.Nm Go.Wd
set_option linter.unusedVariables false
set_option maxRecDepth 8000
variable {H : Heap}
theorem flatG {G : Heap} (g : GH G) : Flat G := fun b r h => by
  obtain ⟨o, ho⟩ := g.exact b (by rw [h]; simp)
  rw [ho] at h; cases h; rfl
theorem mod_conv {G K : Heap} {m : Mod} {b1 b2 b3 b4 b5 : Nat} (O : Owns G K (m.rows b1 b2 b3 b4 b5)) : Conv K G (m.own b1 b2 b3 b4 b5) m.tv := by
  have hf := O.free
  have hh := O.held
  simp only [Mod.rows_def, List.forall_mem_cons, List.not_mem_nil, false_implies, implies_true, and_true] at hf hh
  obtain ⟨f1, f2, f3, f4, f5⟩ := hf
  obtain ⟨h1, h2, h3, h4, h5⟩ := hh
  rw [Mod.own_def, Mod.tv_def]
  exact Conv.agg (.cons (Conv.refl O.sub _) (.cons (conv_own O.sub h1 f1 (each_s1 _)) (.cons (conv_own O.sub h2 f2 (each_s1 _)) (.cons (conv_own O.sub h3 f3 (each_u1 _)) (.cons (conv_own O.sub h4 f4 (each_u1 _)) (.cons (conv_own O.sub h5 f5 (each_relE _)) .nil))))))
theorem modO_c {G K : Heap} (g : GH G) {m : Mod} (hm : m.ok) {b1 b2 b3 b4 b5 : Nat} (O : Owns G K (m.rows b1 b2 b3 b4 b5)) : AC Tryd.prog 34 [m.own b1 b2 b3 b4 b5] K (fun r H' => r = .tup [.s (.int .u8 m.flt.1), .s (.int .i64 m.flt.2)] ∧ H' = K) :=
  AC.frame (module_c g (Sub.refl _) m hm) rfl (flatG g) O.sub (.cons (mod_conv O) .nil)
theorem chkO_c {G K : Heap} (g : GH G) {m : Mod} (hm : m.ok) {b1 b2 b3 b4 b5 : Nat} (O : Owns G K (m.rows b1 b2 b3 b4 b5)) : AC Tryd.prog 15 [m.own b1 b2 b3 b4 b5] K (fun r H' => r = .s (.int .i64 m.chk) ∧ H' = K) :=
  AC.frame (vCheck_c g (Sub.refl _) m hm) rfl (flatG g) O.sub (.cons (mod_conv O) .nil)
/-- A module of nothing but code. -/
def bare (s : ByteArray) (co : List Nat) : Mod := ⟨s, [], [], co, [], []⟩
theorem bare_ok {s : ByteArray} {co : List Nat} (hs : s.size ≤ 100) (hc : co.all (· < 2 ^ 32) = true) (hl : co.length ≤ 100) : (bare s co).ok where
  co := fun x h => by simpa using List.all_eq_true.1 hc x h
  da := fun s h => (List.not_mem_nil h).elim
  re := fun s h => (List.not_mem_nil h).elim
  lex := (by decide : (0 : Nat) < 4611686018427387904)
  lim := (by decide : (0 : Nat) < 4611686018427387904)
  lco := Nat.lt_of_le_of_lt hl (by decide)
  lda := (by decide : (0 : Nat) < 4611686018427387904)
  lre := (by decide : (0 : Nat) < 4611686018427387904)
theorem bare_tv (s : ByteArray) (co : List Nat) : (bare s co).tv = .agg [.s (.string s), .vs 1 [], .vs 1 [], .vs 1 (co.map u1), .vs 1 [], .vs 3 []] := rfl
theorem bare_c {G : Heap} (g : GH G) (hs : Sub G H) {s : ByteArray} {co : List Nat} (h1 : s.size ≤ 100) (h2 : co.all (· < 2 ^ 32) = true) (h3 : co.length ≤ 100) {b : Nat} (hb : H b = some (.cells (co.map u1).flatten)) (hn : G b = none) :
    AC Tryd.prog 34 [.agg [.s (.string s), .nils, .nils, .rs b 0 co.length 1, .nils, .nils]] H (fun r H' => r = .tup [.s (.int .u8 (bare s co).flt.1), .s (.int .i64 (bare s co).flt.2)] ∧ H' = H) := by
  have h := module_c g (Sub.refl _) (bare s co) (bare_ok h1 h2 h3)
  rw [bare_tv] at h
  refine AC.frame h rfl (flatG g) hs (.cons (Conv.agg (.cons (Conv.refl hs _) (.cons conv_nils (.cons conv_nils (.cons ?_ (.cons conv_nils (.cons conv_nils .nil))))))) .nil)
  have := conv_rs (k := 1) hs hb hn (each_u1 co)
  rw [List.length_map] at this
  exact this
theorem bare0_c {G : Heap} (g : GH G) (hs : Sub G H) {s : ByteArray} (h1 : s.size ≤ 100) :
    AC Tryd.prog 34 [.agg [.s (.string s), .nils, .nils, .nils, .nils, .nils]] H (fun r H' => r = .tup [.s (.int .u8 (bare s []).flt.1), .s (.int .i64 (bare s []).flt.2)] ∧ H' = H) := by
  have h := module_c g (Sub.refl _) (bare s []) (bare_ok h1 rfl (by decide))
  rw [bare_tv] at h
  exact AC.frame h rfl (flatG g) hs (.cons (Conv.agg (.cons (Conv.refl hs _) (.cons conv_nils (.cons conv_nils (.cons conv_nils (.cons conv_nils (.cons conv_nils .nil))))))) .nil)
theorem bareC_c {G : Heap} (g : GH G) (hs : Sub G H) {s : ByteArray} (h1 : s.size ≤ 100) :
    AC Tryd.prog 15 [.agg [.s (.string s), .nils, .nils, .nils, .nils, .nils]] H (fun r H' => r = .s (.int .i64 (bare s []).chk) ∧ H' = H) := by
  have h := vCheck_c g (Sub.refl _) (bare s []) (bare_ok h1 rfl (by decide))
  rw [bare_tv] at h
  exact AC.frame h rfl (flatG g) hs (.cons (Conv.agg (.cons (Conv.refl hs _) (.cons conv_nils (.cons conv_nils (.cons conv_nils (.cons conv_nils (.cons conv_nils .nil))))))) .nil)
theorem fA : (bare ⟨#[109]⟩ [0]).flt = (0, 0) := by kernel_rfl
theorem fB : (bare ⟨#[109]⟩ []).flt = (4, 0) := by kernel_rfl
theorem fC : (bare ⟨#[109]⟩ [0, 2281701381]).flt = (9, 1) := by kernel_rfl
theorem fZ : (bare ⟨#[]⟩ []).chk = 20 := by kernel_rfl
theorem awA {G : Heap} (g : GH G) (hs : Sub G H) {b : Nat} (hb : H b = some (.cells [.s (.int .u32 0)])) (hn : G b = none) : AC Tryd.prog 34 [.agg [.s (.string ⟨#[109]⟩), .nils, .nils, .rs b 0 1 1, .nils, .nils]] H (fun r H' => r = .tup [.s (.int .u8 0), .s (.int .i64 0)] ∧ H' = H) := by
  have h := bare_c (s := ⟨#[109]⟩) (co := [0]) g hs (by decide) rfl (by decide) hb hn
  rw [fA] at h; exact h
theorem awC {G : Heap} (g : GH G) (hs : Sub G H) {b : Nat} (hb : H b = some (.cells [.s (.int .u32 0), .s (.int .u32 2281701381)])) (hn : G b = none) : AC Tryd.prog 34 [.agg [.s (.string ⟨#[109]⟩), .nils, .nils, .rs b 0 2 1, .nils, .nils]] H (fun r H' => r = .tup [.s (.int .u8 9), .s (.int .i64 1)] ∧ H' = H) := by
  have h := bare_c (s := ⟨#[109]⟩) (co := [0, 2281701381]) g hs (by decide) rfl (by decide) hb hn
  rw [fC] at h; exact h
theorem awB {G : Heap} (g : GH G) (hs : Sub G H) : AC Tryd.prog 34 [.agg [.s (.string ⟨#[109]⟩), .nils, .nils, .nils, .nils, .nils]] H (fun r H' => r = .tup [.s (.int .u8 4), .s (.int .i64 0)] ∧ H' = H) := by
  have h := bare0_c (s := ⟨#[109]⟩) g hs (by decide)
  rw [fB] at h; exact h
theorem awZ {G : Heap} (g : GH G) (hs : Sub G H) : AC Tryd.prog 15 [.agg [.s (.string ByteArray.empty), .nils, .nils, .nils, .nils, .nils]] H (fun r H' => r = .s (.int .i64 20) ∧ H' = H) := by
  have h := bareC_c (s := ⟨#[]⟩) g hs (by decide)
  rw [fZ] at h; exact h
end Go.Abs
/- The laws of modules that are looked at. -/
namespace Go.Abs
set_option linter.unusedSimpArgs false
set_option linter.unusedVariables false
open Go.Proofs Go.Nm Go.Wd
set_option linter.unusedVariables false
set_option maxRecDepth 8000
variable {H : Heap}
theorem flt_range (m : Mod) : 0 ≤ m.flt.1 ∧ m.flt.1 ≤ 9 := by
  unfold Mod.flt
  split
  · exact ⟨by simp, by simp⟩
  · split
    · unfold Mod.txt; (repeat' split) <;> exact ⟨by simp, by simp⟩
    · split
      · unfold Mod.wrd; (repeat' split) <;> exact ⟨by simp, by simp⟩
      · unfold Mod.rel; (repeat' split) <;> exact ⟨by simp, by simp⟩
theorem pat_self (m : Mod) : m.pat m = 0 := if_pos rfl
theorem pat_comm (m n : Mod) : n.pat m = m.pat n := by
  unfold Mod.pat
  by_cases h : m.ex = n.ex
  · rw [if_pos h, if_pos h.symm]
  · rw [if_neg h, if_neg (fun e => h e.symm)]
theorem little_of {m : Mod} (h : decide ((2000 : Int) < m.size) = false) : m.little := by
  have h := of_decide_eq_false h
  obtain ⟨h1, h2, h3, h4, h5⟩ := size_small (m := m) (by omega)
  exact ⟨h1, h2, h3, h4, h5⟩
/-- Numbers in their ranges. -/
structure Mod.num (m : Mod) : Prop where
  co : ∀ x ∈ m.co, x < 2 ^ 32
  da : ∀ x ∈ m.da, x < 2 ^ 32
  re : ∀ r ∈ m.re, r.k < 256 ∧ r.a < 65536 ∧ r.w < 65536
theorem ok_of {m : Mod} (h : m.num) (l : m.little) : m.ok where
  co := h.co
  da := h.da
  re := h.re
  lex := Nat.lt_of_le_of_lt l.ex (by decide)
  lim := Nat.lt_of_le_of_lt l.im (by decide)
  lco := Nat.lt_of_le_of_lt l.co (by decide)
  lda := Nat.lt_of_le_of_lt l.da (by decide)
  lre := Nat.lt_of_le_of_lt l.re (by decide)
end Go.Abs
/- Modules that may be loaded: what is true of them, and back. -/
namespace Go.Abs
set_option linter.unusedSimpArgs false
set_option linter.unusedVariables false
open Go.Proofs Go.Nm Go.Wd
set_option linter.unusedVariables false
set_option maxRecDepth 8000
variable {H : Heap}
/-- Nothing is wrong with a module. -/
structure Mod.fine (m : Mod) : Prop where
  obj : m.obj = 0
  nms : decide (0 ≤ m.nmI) = false
  tws : decide (0 ≤ m.twI) = false
  co0 : (((m.co.length : Nat) : Int) == 0) = false
  coE : decide (((m.co.length : Nat) : Int) < m.ex.length) = false
  wds : decide (0 ≤ fi badW m.co) = false
  pls : decide (0 ≤ fi m.badP (List.range m.re.length)) = false
  fts : decide (0 ≤ fi (fun r => !m.fit r) m.re) = false
  ths : decide (0 ≤ fi (fun r => !m.thr r) m.re) = false
  lse : decide (0 ≤ fi m.loose (List.range m.co.length)) = false
theorem flt_eq (m : Mod) : m.flt = if m.obj != 0 then (1, 0) else if decide (0 ≤ m.nmI) then (2, m.nmI) else if decide (0 ≤ m.twI) then (3, m.twI) else
    if ((m.co.length : Nat) : Int) == 0 || decide (((m.co.length : Nat) : Int) < m.ex.length) then (4, 0) else if decide (0 ≤ fi badW m.co) then (5, fi badW m.co) else
    if decide (0 ≤ fi m.badP (List.range m.re.length)) then (6, fi m.badP (List.range m.re.length)) else if decide (0 ≤ fi (fun r => !m.fit r) m.re) then (7, fi (fun r => !m.fit r) m.re) else
    if decide (0 ≤ fi (fun r => !m.thr r) m.re) then (8, fi (fun r => !m.thr r) m.re) else if decide (0 ≤ fi m.loose (List.range m.co.length)) then (9, fi m.loose (List.range m.co.length)) else (0, 0) := by
  unfold Mod.flt
  cases q0 : (m.obj != 0) with
  | true => rfl
  | false =>
    rw [txt_alt (by simpa using q0)]
    unfold Mod.wrd Mod.rel
    generalize decide (0 ≤ m.nmI) = b1
    generalize decide (0 ≤ m.twI) = b2
    generalize (((m.co.length : Nat) : Int) == 0 || decide (((m.co.length : Nat) : Int) < m.ex.length)) = b3
    generalize decide (0 ≤ fi badW m.co) = b4
    cases b1
    · cases b2
      · cases b3
        · cases b4 <;> rfl
        · rfl
      · rfl
    · rfl
theorem fine_iff {m : Mod} : m.fine ↔ m.flt.1 = 0 := by
  rw [flt_eq]
  constructor
  · rintro ⟨h0, h1, h2, h3, h4, h5, h6, h7, h8, h9⟩
    rw [h0, h1, h2, h3, h4, h5, h6, h7, h8, h9]; rfl
  · intro h
    cases q0 : (m.obj != 0) with
    | true => rw [q0] at h; simp at h
    | false =>
      cases q1 : decide (0 ≤ m.nmI) with
      | true => rw [q0, q1] at h; simp at h
      | false => cases q2 : decide (0 ≤ m.twI) with
        | true => rw [q0, q1, q2] at h; simp at h
        | false => cases q3 : (((m.co.length : Nat) : Int) == 0) with
          | true => rw [q0, q1, q2, q3] at h; simp at h
          | false => cases q4 : decide (((m.co.length : Nat) : Int) < m.ex.length) with
            | true => rw [q0, q1, q2, q3, q4] at h; simp at h
            | false => cases q5 : decide (0 ≤ fi badW m.co) with
              | true => rw [q0, q1, q2, q3, q4, q5] at h; simp at h
              | false => cases q6 : decide (0 ≤ fi m.badP (List.range m.re.length)) with
                | true => rw [q0, q1, q2, q3, q4, q5, q6] at h; simp at h
                | false => cases q7 : decide (0 ≤ fi (fun r => !m.fit r) m.re) with
                  | true => rw [q0, q1, q2, q3, q4, q5, q6, q7] at h; simp at h
                  | false => cases q8 : decide (0 ≤ fi (fun r => !m.thr r) m.re) with
                    | true => rw [q0, q1, q2, q3, q4, q5, q6, q7, q8] at h; simp at h
                    | false => cases q9 : decide (0 ≤ fi m.loose (List.range m.co.length)) with
                      | true => rw [q0, q1, q2, q3, q4, q5, q6, q7, q8, q9] at h; simp at h
                      | false => exact ⟨by simpa using q0, q1, q2, q3, q4, q5, q6, q7, q8, q9⟩
theorem chk_fine {m : Mod} (h : (m.chk != 0) = false) : m.fine := fine_iff.2 (by
  unfold Mod.chk at h
  cases q : (m.flt.1 != 0) with
  | true => rw [q] at h; simp at h
  | false => simpa using q)
theorem fine_chk {m : Mod} (h : m.fine) : m.chk = 0 := by
  unfold Mod.chk; rw [fine_iff.1 h]; rfl
def encI (n : Nat) : Value := .int .i64 n
theorem eqInt (a b : Int) : eqTV Tryd.prog 9 3 (.s (.int .i64 a)) (.s (.int .i64 b)) = some (a == b) := by kernel_rfl
theorem rep_encI (w : World) (F : Nat → Prop) (n : Nat) : Rep w F (.s (.int .i64 n)) (encI n) := by simp only [Rep, encI]
theorem intK : KeyP Tryd.prog 3 encI where
  eq := fun w a b => by
    have h := eqTV_run (P := Tryd.prog) (w := w) (F := fun _ => True) (d' := 9991) (eqInt a b) (rep_encI w _ a) (rep_encI w _ b)
    have e : ((a : Int) == (b : Int)) = decide (a = b) := by rw [Bool.eq_iff_iff]; simp; omega
    rw [e] at h
    exact h
  chk := fun w e a => rfl
  under := ⟨_, rfl, fun a b => .inr (by
    have e : ((a : Int) == (b : Int)) = decide (a = b) := by rw [Bool.eq_iff_iff]; simp; omega
    rw [← e]; rfl)⟩
  same := fun a => by simp [Instr.sameBits, encI]
/-- The words of code that the first relocations name. -/
def Mod.keys (m : Mod) (i : Nat) : List Nat := ((m.re.take i).filter (fun r => r.spot.1)).map (·.a)
theorem keys_zero (m : Mod) : m.keys 0 = [] := by unfold Mod.keys; simp
theorem keys_succ {m : Mod} {i : Nat} {r : Rlc} (h : m.re[i]? = some r) : m.keys (i + 1) = if r.spot.1 then m.keys i ++ [r.a] else m.keys i := by
  unfold Mod.keys
  rw [List.take_add_one, h]
  simp only [Option.toList_some, List.filter_append, List.map_append]
  cases hq : r.spot.1 <;> simp [hq]
theorem keys_in {m : Mod} {i a : Nat} : inB a (m.keys i) = inB (true, a) ((m.re.take i).map Rlc.spot) := by
  unfold inB Mod.keys
  rw [Bool.eq_iff_iff]
  simp only [decide_eq_true_eq, List.mem_map, List.mem_filter]
  constructor
  · rintro ⟨r, ⟨h1, h2⟩, rfl⟩; exact ⟨r, h1, Prod.ext h2 rfl⟩
  · rintro ⟨r, h1, h2⟩; exact ⟨r, ⟨h1, congrArg Prod.fst h2⟩, congrArg Prod.snd h2⟩
theorem fine_re {m : Mod} (h : m.fine) {i : Nat} {r : Rlc} (hr : m.re[i]? = some r) : r.a < m.len r ∧ inB r.spot ((m.re.take i).map Rlc.spot) = false ∧ m.fit r = true := by
  have h1 := fi_all h.pls i (by rw [List.mem_range]; exact (List.getElem?_eq_some_iff.1 hr).1)
  unfold Mod.badP at h1
  rw [hr] at h1
  obtain ⟨h2, h3⟩ := Bool.or_eq_false_iff.1 h1
  have h3 := of_decide_eq_false h3
  refine ⟨by omega, h2, ?_⟩
  simpa using fi_all h.fts r (List.mem_of_getElem? hr)
theorem fine_co {m : Mod} (h : m.fine) {i w : Nat} (hw : m.co[i]? = some w) : (decE w != 0) = false ∧ (((dec w).o : Int) == 21) = false ∧ ((((dec w).o : Int) == 17) = true → inB i (m.keys m.re.length) = true) := by
  have h1 := fi_all h.wds w (List.mem_of_getElem? hw)
  unfold badW at h1
  obtain ⟨h2, h3⟩ := Bool.or_eq_false_iff.1 h1
  refine ⟨h2, h3, fun h4 => ?_⟩
  have h5 := fi_all h.lse i (by rw [List.mem_range]; exact (List.getElem?_eq_some_iff.1 hw).1)
  unfold Mod.loose at h5
  rw [hw] at h5
  simp only [h4, Bool.true_and] at h5
  rw [keys_in, List.take_length]
  simpa using h5
theorem k456 (k : Nat) : (dataK k = true → ((k : Int) == 4) = true ∨ (((k : Int) == 4) = false ∧ ((k : Int) == 5) = true) ∨ (((k : Int) == 4) = false ∧ ((k : Int) == 5) = false ∧ ((k : Int) == 6) = true)) ∧ (dataK k = false → ((k : Int) == 4) = false ∧ ((k : Int) == 5) = false ∧ ((k : Int) == 6) = false) := by
  unfold dataK
  cases ((k : Int) == 4) <;> cases ((k : Int) == 5) <;> cases ((k : Int) == 6) <;> simp
end Go.Abs
/- Modules that may be loaded, told by what is in them; what becomes of them with a part more or less. No program. -/
namespace Go.Abs
set_option linter.unusedSimpArgs false
set_option linter.unusedVariables false
open Go.Proofs Go.Nm Go.Wd
set_option linter.unusedVariables false
set_option maxRecDepth 8000
theorem fi_no {α : Type} {p : α → Bool} {l : List α} : decide (0 ≤ fi p l) = false ↔ ∀ x ∈ l, p x = false :=
  ⟨fi_all, fun h => by rw [fi_none (fun j y hy => h y (List.mem_of_getElem? hy))]; rfl⟩
theorem nodup_take {α : Type} (l : List α) : l.Nodup ↔ ∀ (i : Nat) (x : α), l[i]? = some x → x ∉ l.take i := by
  unfold List.Nodup
  rw [List.pairwise_iff_getElem]
  constructor
  · intro h i x hx hm
    obtain ⟨hi, rfl⟩ := List.getElem?_eq_some_iff.1 hx
    obtain ⟨j, hj, he⟩ := List.mem_take_iff_getElem.1 hm
    exact h j i (by omega) hi (by omega) he
  · intro h i j hi hj hij he
    exact h j _ (List.getElem?_eq_getElem hj) (List.mem_take_iff_getElem.2 ⟨i, by omega, he⟩)
theorem dup_iff {l : List ByteArray} {i : Nat} {x : ByteArray} (hx : l[i]? = some x) : dup l i = false ↔ x ∉ l.take i := by
  unfold dup
  rw [hx]
  show decide (0 ≤ fi (fun y => x.toList == y.toList) (l.take i)) = false ↔ _
  rw [fi_no]
  simp only [str_eq, decide_eq_false_iff_not]
  exact ⟨fun h hm => h x hm rfl, fun h y hy e => h (e ▸ hy)⟩
theorem rep_no {l : List ByteArray} : decide (0 ≤ rep l) = false ↔ l.Nodup := by
  unfold rep
  rw [fi_no, nodup_take]
  constructor
  · intro h i x hx
    exact (dup_iff hx).1 (h i (by rw [List.mem_range]; exact (List.getElem?_eq_some_iff.1 hx).1))
  · intro h i hi
    obtain ⟨x, hx⟩ := at_ (List.mem_range.1 hi)
    exact (dup_iff hx).2 (h i x hx)
theorem badP_no {m : Mod} {i : Nat} {r : Rlc} (hr : m.re[i]? = some r) : m.badP i = false ↔ r.spot ∉ (m.re.take i).map Rlc.spot ∧ r.a < m.len r := by
  unfold Mod.badP inB
  rw [hr]
  simp only [Bool.or_eq_false_iff, decide_eq_false_iff_not]
  constructor
  · rintro ⟨h1, h2⟩; exact ⟨h1, by omega⟩
  · rintro ⟨h1, h2⟩; exact ⟨h1, by omega⟩
theorem places_no {m : Mod} : decide (0 ≤ fi m.badP (List.range m.re.length)) = false ↔ (m.re.map Rlc.spot).Nodup ∧ ∀ r ∈ m.re, r.a < m.len r := by
  rw [fi_no, nodup_take]
  constructor
  · intro h
    have h' : ∀ i r, m.re[i]? = some r → r.spot ∉ (m.re.take i).map Rlc.spot ∧ r.a < m.len r := fun i r hr => (badP_no hr).1 (h i (by rw [List.mem_range]; exact (List.getElem?_eq_some_iff.1 hr).1))
    refine ⟨fun i x hx => ?_, fun r hr => ?_⟩
    · rw [List.getElem?_map] at hx
      cases hr : m.re[i]? with
      | none => rw [hr] at hx; cases hx
      | some r => rw [hr] at hx; cases hx; rw [← List.map_take]; exact (h' i r hr).1
    · obtain ⟨i, hi⟩ := List.mem_iff_getElem?.1 hr
      exact (h' i r hi).2
  · rintro ⟨h1, h2⟩ i hi
    obtain ⟨r, hr⟩ := at_ (List.mem_range.1 hi)
    refine (badP_no hr).2 ⟨?_, h2 r (List.mem_of_getElem? hr)⟩
    rw [List.map_take]
    exact h1 i _ (by rw [List.getElem?_map, hr]; rfl)
theorem loose_no {m : Mod} : decide (0 ≤ fi m.loose (List.range m.co.length)) = false ↔ ∀ i w, m.co[i]? = some w → (dec w).o = 17 → (true, i) ∈ m.re.map Rlc.spot := by
  rw [fi_no]
  have key : ∀ i w, m.co[i]? = some w → (m.loose i = false ↔ ((dec w).o = 17 → (true, i) ∈ m.re.map Rlc.spot)) := by
    intro i w hw
    unfold Mod.loose
    rw [hw]
    show ((((dec w).o : Int) == 17) && !(inB (true, i) (m.re.map Rlc.spot))) = false ↔ _
    by_cases h : (dec w).o = 17
    · rw [h]; simp [inB]
    · have : (((dec w).o : Int) == 17) = false := by simp; omega
      rw [this]; simp [h]
  constructor
  · intro h i w hw
    exact (key i w hw).1 (h i (by rw [List.mem_range]; exact (List.getElem?_eq_some_iff.1 hw).1))
  · intro h i hi
    obtain ⟨w, hw⟩ := at_ (List.mem_range.1 hi)
    exact (key i w hw).2 (h i w hw)
/-- What stands in a module that may be loaded. -/
structure Mod.good (m : Mod) : Prop where
  lex : m.ex.length ≤ 8
  lim : m.im.length ≤ 16
  lre : m.re.length ≤ 256
  lco : m.co.length ≤ 512
  lda : m.da.length ≤ 128
  long : ∀ s ∈ m.nm :: (m.ex ++ m.im), longB s = false
  kind : ∀ r ∈ m.re, kindB r = false
  name : ∀ s ∈ m.nm :: (m.ex ++ m.im), badN s = false
  dex : m.ex.Nodup
  dim : m.im.Nodup
  co0 : 0 < m.co.length
  coE : m.ex.length ≤ m.co.length
  word : ∀ w ∈ m.co, badW w = false
  spot : (m.re.map Rlc.spot).Nodup
  plac : ∀ r ∈ m.re, r.a < m.len r
  fits : ∀ r ∈ m.re, m.fit r = true
  thrs : ∀ r ∈ m.re, m.thr r = true
  call : ∀ i w, m.co[i]? = some w → (dec w).o = 17 → (true, i) ∈ m.re.map Rlc.spot
theorem obj_no {m : Mod} : m.obj = 0 ↔ (m.ex.length ≤ 8 ∧ m.im.length ≤ 16 ∧ m.re.length ≤ 256 ∧ m.co.length ≤ 512 ∧ m.da.length ≤ 128) ∧ (∀ s ∈ m.nm :: (m.ex ++ m.im), longB s = false) ∧ ∀ r ∈ m.re, kindB r = false := by
  rw [obj_alt]
  have hbig : m.big = false ↔ (m.ex.length ≤ 8 ∧ m.im.length ≤ 16 ∧ m.re.length ≤ 256 ∧ m.co.length ≤ 512 ∧ m.da.length ≤ 128) := by
    unfold Mod.big; simp; omega
  have hlong : (longB m.nm || (decide (0 ≤ fi longB m.ex) || decide (0 ≤ fi longB m.im))) = false ↔ ∀ s ∈ m.nm :: (m.ex ++ m.im), longB s = false := by
    rw [Bool.or_eq_false_iff, Bool.or_eq_false_iff, fi_no, fi_no]
    simp only [List.forall_mem_cons, List.forall_mem_append]
  rw [← hbig, ← hlong, ← fi_no]
  cases m.big <;> cases (longB m.nm || (decide (0 ≤ fi longB m.ex) || decide (0 ≤ fi longB m.im))) <;> cases decide (0 ≤ fi kindB m.re) <;> simp
theorem nmI_no {m : Mod} : decide (0 ≤ m.nmI) = false ↔ ∀ s ∈ m.nm :: (m.ex ++ m.im), badN s = false := by
  simp only [List.forall_mem_cons, List.forall_mem_append]
  rw [← fi_no, ← fi_no]
  unfold Mod.nmI
  have x1 := fi_lt badN m.ex
  have x2 := fi_lt badN m.im
  generalize fi badN m.ex = a at *
  generalize fi badN m.im = b at *
  cases badN m.nm
  · by_cases h1 : 0 ≤ a
    · have : ¬ (1 + a < 0) := by omega
      simp [h1]; omega
    · by_cases h2 : 0 ≤ b
      · simp [h1, h2]; omega
      · simp [h1, h2]
  · simp
theorem twI_no {m : Mod} (h : m.im.length ≤ 16) : decide (0 ≤ m.twI) = false ↔ m.ex.Nodup ∧ m.im.Nodup := by
  rw [← rep_no, ← rep_no]
  have x4 := fi_lt (dup m.im) (List.range m.im.length)
  rw [List.length_range] at x4
  have w2 : IntKind.i64.wrap (8 + rep m.im) = 8 + rep m.im := by unfold rep; exact wi64 (by omega) (by omega)
  unfold Mod.twI
  rw [w2]
  by_cases h1 : 0 ≤ rep m.ex
  · simp [h1]
  · by_cases h2 : 0 ≤ rep m.im
    · simp [h1, h2]; omega
    · simp [h1, h2]
theorem good_iff {m : Mod} : m.fine ↔ m.good := by
  constructor
  · intro h
    obtain ⟨⟨l1, l2, l3, l4, l5⟩, o2, o3⟩ := obj_no.1 h.obj
    obtain ⟨t1, t2⟩ := (twI_no l2).1 h.tws
    obtain ⟨p1, p2⟩ := places_no.1 h.pls
    have c0 := h.co0
    have cE := h.coE
    exact ⟨l1, l2, l3, l4, l5, o2, o3, nmI_no.1 h.nms, t1, t2, by simp at c0; exact List.length_pos_iff.2 c0, by simp at cE; omega, fi_no.1 h.wds, p1, p2, fun r hr => by simpa using fi_no.1 h.fts r hr, fun r hr => by simpa using fi_no.1 h.ths r hr, loose_no.1 h.lse⟩
  · intro h
    exact ⟨obj_no.2 ⟨⟨h.lex, h.lim, h.lre, h.lco, h.lda⟩, h.long, h.kind⟩, nmI_no.2 h.name, (twI_no h.lim).2 ⟨h.dex, h.dim⟩, by have := h.co0; simp; exact List.length_pos_iff.1 this, by have := h.coE; simp; omega, fi_no.2 h.word, places_no.2 ⟨h.spot, h.plac⟩, fi_no.2 (fun r hr => by simpa using h.fits r hr), fi_no.2 (fun r hr => by simpa using h.thrs r hr), loose_no.2 h.call⟩
/-- What is told first. -/
theorem flt_obj {m : Mod} (h : m.obj ≠ 0) : m.flt.1 = 1 := by
  rw [flt_eq, if_pos (by simpa using h)]
theorem flt_nm {m : Mod} (h : m.obj = 0) {i : Int} (hn : m.nmI = i) (h0 : 0 ≤ i) : m.flt = (2, i) := by
  rw [flt_eq, h, hn, if_neg (by decide), if_pos (by simpa using h0)]
theorem flt_tw {m : Mod} (h : m.obj = 0) (hn : ∀ s ∈ m.nm :: (m.ex ++ m.im), badN s = false) {i : Int} (ht : m.twI = i) (h0 : 0 ≤ i) : m.flt = (3, i) := by
  rw [flt_eq, h, ht, if_neg (by decide), nmI_no.2 hn, if_neg (by decide), if_pos (by simpa using h0)]
theorem flt_good {m : Mod} (h : m.good) : m.flt.1 = 0 := fine_iff.1 (good_iff.2 h)
theorem chk_good {m : Mod} (h : m.good) : m.chk = 0 := fine_chk (good_iff.2 h)
theorem chk_bad20 {m : Mod} (h : m.flt.1 ≠ 0) : m.chk = 20 := by unfold Mod.chk; rw [if_pos (by simpa using h)]
theorem getD_app {l n : List Nat} {i : Nat} (h : i < l.length) : (l ++ n).getD i 0 = l.getD i 0 := by simp [List.getD_eq_getElem?_getD, List.getElem?_append_left h]
theorem fit_congr {m n : Mod} {r : Rlc} (h1 : r.spot.1 = true → n.co.getD r.a 0 = m.co.getD r.a 0) (h2 : r.spot.1 = false → n.da.getD r.a 0 = m.da.getD r.a 0) : n.fit r = m.fit r := by
  unfold Mod.fit
  cases q : r.spot.1 with
  | true => rw [h1 q, if_pos rfl, if_pos rfl]
  | false => rw [h2 q, if_neg (by decide), if_neg (by decide)]
theorem badW0 : badW 0 = false := by kernel_rfl
theorem dec0 : (dec 0).o = 0 := by kernel_rfl
/-- A word of code more, nothing but a halt. -/
theorem good_code {m : Mod} (h : m.good) (hl : m.co.length < 512) : ({ m with co := m.co ++ [0] } : Mod).good where
  lex := h.lex
  lim := h.lim
  lre := h.lre
  lco := by simp; omega
  lda := h.lda
  long := h.long
  kind := h.kind
  name := h.name
  dex := h.dex
  dim := h.dim
  co0 := by simp
  coE := by have := h.coE; simp; omega
  word := fun w hw => by
    rcases List.mem_append.1 hw with hw | hw
    · exact h.word w hw
    · rw [List.mem_singleton.1 hw]; exact badW0
  spot := h.spot
  plac := fun r hr => by
    have := h.plac r hr
    unfold Mod.len at this ⊢
    simp only [List.length_append, List.length_singleton]
    split <;> rename_i q <;> simp only [q, if_true, if_false, Bool.false_eq_true] at this <;> omega
  fits := fun r hr => by
    have h1 := h.plac r hr
    unfold Mod.len at h1
    exact (fit_congr (m := m) (n := { m with co := m.co ++ [0] }) (fun q => by rw [q, if_pos rfl] at h1; exact getD_app h1) (fun _ => rfl)).trans (h.fits r hr)
  thrs := fun r hr => by
    have := h.thrs r hr
    unfold Mod.thr at this ⊢
    simp only [List.length_append, List.length_singleton]
    split <;> rename_i q
    · rw [if_pos q] at this; exact this
    · rw [if_neg q] at this
      split <;> rename_i q2
      · rw [if_pos q2] at this; exact this
      · rw [if_neg q2] at this; simp at this ⊢; omega
  call := fun i w hw ho => by
    by_cases hi : i < m.co.length
    · rw [show (({ m with co := m.co ++ [0] } : Mod).co) = m.co ++ [0] from rfl, List.getElem?_append_left hi] at hw
      exact h.call i w hw ho
    · rw [show (({ m with co := m.co ++ [0] } : Mod).co) = m.co ++ [0] from rfl, List.getElem?_append_right (by omega)] at hw
      have : w = 0 := by
        have := List.mem_of_getElem? hw
        simpa using this
      subst this
      exact absurd ho (by rw [dec0]; decide)
def impK (r : Rlc) : Bool := ((r.k : Int) == 0) || (((r.k : Int) == 1) || ((r.k : Int) == 4))
/-- The last import less. -/
theorem good_less {m : Mod} (h : m.good) {pre : List ByteArray} {x : ByteArray} (him : m.im = pre ++ [x]) (hno : ∀ r ∈ m.re, impK r = true → r.w ≠ pre.length) : ({ m with im := pre } : Mod).good where
  lex := h.lex
  lim := by have := h.lim; rw [him] at this; simp at this ⊢; omega
  lre := h.lre
  lco := h.lco
  lda := h.lda
  long := fun s hs => h.long s (by
    rw [him]; simp only [List.mem_cons, List.mem_append] at hs ⊢; rcases hs with hs | hs | hs
    · exact .inl hs
    · exact .inr (.inl hs)
    · exact .inr (.inr (.inl hs)))
  kind := h.kind
  name := fun s hs => h.name s (by
    rw [him]; simp only [List.mem_cons, List.mem_append] at hs ⊢; rcases hs with hs | hs | hs
    · exact .inl hs
    · exact .inr (.inl hs)
    · exact .inr (.inr (.inl hs)))
  dex := h.dex
  dim := by have := h.dim; rw [him] at this; exact (List.nodup_append.1 this).1
  co0 := h.co0
  coE := h.coE
  word := h.word
  spot := h.spot
  plac := h.plac
  fits := h.fits
  thrs := fun r hr => by
    have h1 := h.thrs r hr
    have h2 := hno r hr
    unfold Mod.thr at h1 ⊢
    unfold impK at h2
    simp only []
    rw [him] at h1
    split <;> rename_i q
    · rw [if_pos q] at h1
      have := h2 q
      simp at h1 ⊢; omega
    · rw [if_neg q] at h1; exact h1
  call := h.call
/-- An import more. -/
theorem good_more {m : Mod} (h : m.good) {x : ByteArray} (hl : m.im.length < 16) (h1 : longB x = false) (h2 : badN x = false) (h3 : x ∉ m.im) : ({ m with im := m.im ++ [x] } : Mod).good where
  lex := h.lex
  lim := by simp; omega
  lre := h.lre
  lco := h.lco
  lda := h.lda
  long := fun s hs => by
    simp only [List.mem_cons, List.mem_append, List.not_mem_nil, or_false] at hs
    rcases hs with hs | hs | hs | hs
    · exact h.long s (by simp [hs])
    · exact h.long s (by simp [hs])
    · exact h.long s (by simp [hs])
    · rw [hs]; exact h1
  kind := h.kind
  name := fun s hs => by
    simp only [List.mem_cons, List.mem_append, List.not_mem_nil, or_false] at hs
    rcases hs with hs | hs | hs | hs
    · exact h.name s (by simp [hs])
    · exact h.name s (by simp [hs])
    · exact h.name s (by simp [hs])
    · rw [hs]; exact h2
  dex := h.dex
  dim := by
    refine List.nodup_append.2 ⟨h.dim, by simp, fun a ha b hb => ?_⟩
    rw [List.mem_singleton.1 hb]
    exact fun e => h3 (e ▸ ha)
  co0 := h.co0
  coE := h.coE
  word := h.word
  spot := h.spot
  plac := h.plac
  fits := h.fits
  thrs := fun r hr => by
    have h1 := h.thrs r hr
    unfold Mod.thr at h1 ⊢
    simp only [List.length_append, List.length_singleton]
    split <;> rename_i q
    · rw [if_pos q] at h1
      simp at h1 ⊢; omega
    · rw [if_neg q] at h1; exact h1
  call := h.call
/-- A word of data more. -/
theorem good_data {m : Mod} (h : m.good) (hl : m.da.length < 128) : ({ m with da := m.da ++ [7] } : Mod).good where
  lex := h.lex
  lim := h.lim
  lre := h.lre
  lco := h.lco
  lda := by simp; omega
  long := h.long
  kind := h.kind
  name := h.name
  dex := h.dex
  dim := h.dim
  co0 := h.co0
  coE := h.coE
  word := h.word
  spot := h.spot
  plac := fun r hr => by
    have := h.plac r hr
    unfold Mod.len at this ⊢
    simp only [List.length_append, List.length_singleton]
    split <;> rename_i q <;> simp only [q, if_true, if_false, Bool.false_eq_true] at this <;> omega
  fits := fun r hr => by
    have h1 := h.plac r hr
    unfold Mod.len at h1
    exact (fit_congr (m := m) (n := { m with da := m.da ++ [7] }) (fun _ => rfl) (fun q => by rw [q, if_neg (by decide)] at h1; exact getD_app h1)).trans (h.fits r hr)
  thrs := fun r hr => by
    have := h.thrs r hr
    unfold Mod.thr at this ⊢
    simp only [List.length_append, List.length_singleton]
    split <;> rename_i q
    · rw [if_pos q] at this; exact this
    · rw [if_neg q] at this
      split <;> rename_i q2
      · rw [if_pos q2] at this; simp at this ⊢; omega
      · rw [if_neg q2] at this; exact this
  call := h.call
theorem data_chk {m : Mod} (h : m.good) : (({ m with da := m.da ++ [7] } : Mod).chk == 0) = decide ((m.da.length : Int) < 128) := by
  by_cases hl : m.da.length < 128
  · rw [chk_good (good_data h hl), decide_eq_true (by omega)]; rfl
  · rw [chk_bad20 (by
      rw [flt_obj fun e => ?_]; decide
      have := (obj_no.1 e).1.2.2.2.2
      simp at this; omega), decide_eq_false (by omega)]; rfl
section more
variable {m : Mod} (h : m.good) {x : ByteArray}
theorem more_big (hx : ((m.im.length : Int) == 16) = true ∨ longB x = true) : ({ m with im := m.im ++ [x] } : Mod).flt.1 = 1 := by
  refine flt_obj fun e => ?_
  obtain ⟨⟨_, l, _⟩, l2, _⟩ := obj_no.1 e
  rcases hx with hx | hx
  · simp at l hx; omega
  · rw [l2 x (by simp)] at hx; cases hx
include h
theorem more_obj (hl : ((m.im.length : Int) == 16) = false) (h1 : longB x = false) : ({ m with im := m.im ++ [x] } : Mod).obj = 0 := by
  refine obj_no.2 ⟨⟨h.lex, ?_, h.lre, h.lco, h.lda⟩, fun s hs => ?_, h.kind⟩
  · have := h.lim; simp at hl ⊢; omega
  · simp only [List.mem_cons, List.mem_append, List.not_mem_nil, or_false] at hs
    rcases hs with hs | hs | hs | hs
    · exact h.long s (by simp [hs])
    · exact h.long s (by simp [hs])
    · exact h.long s (by simp [hs])
    · rw [hs]; exact h1
theorem more_name (hl : ((m.im.length : Int) == 16) = false) (h1 : longB x = false) (h2 : badN x = true) : ({ m with im := m.im ++ [x] } : Mod).flt = (2, 9 + (m.im.length : Int)) := by
  refine flt_nm (more_obj h hl h1) ?_ (by omega)
  unfold Mod.nmI
  have e1 : badN m.nm = false := h.name _ (by simp)
  have e2 : decide (0 ≤ fi badN m.ex) = false := fi_no.2 fun s hs => h.name s (by simp [hs])
  have e3 : fi badN (m.im ++ [x]) = m.im.length := fi_some (i := m.im.length) (x := x) (by simp) h2 fun j y hj hy => by
    rw [List.getElem?_append_left hj] at hy
    exact h.name y (by simp [List.mem_of_getElem? hy])
  simp only [e1, e2, e3, Bool.false_eq_true, if_false]
  rw [if_pos (by simp)]
theorem more_twice (hl : ((m.im.length : Int) == 16) = false) (h1 : longB x = false) (h2 : x ∈ m.im) : ({ m with im := m.im ++ [x] } : Mod).flt = (3, 8 + (m.im.length : Int)) := by
  refine flt_tw (more_obj h hl h1) (fun s hs => ?_) ?_ (by omega)
  · simp only [List.mem_cons, List.mem_append, List.not_mem_nil, or_false] at hs
    rcases hs with hs | hs | hs | hs
    · exact h.name s (by simp [hs])
    · exact h.name s (by simp [hs])
    · exact h.name s (by simp [hs])
    · exact h.name s (by simp [hs, h2])
  · unfold Mod.twI
    have e1 : decide (0 ≤ rep m.ex) = false := rep_no.2 h.dex
    have e3 : rep (m.im ++ [x]) = m.im.length := rep_some (by simp) (by
      cases q : dup (m.im ++ [x]) m.im.length with
      | true => rfl
      | false => exact absurd (by simpa using h2) ((dup_iff (x := x) (by simp)).1 q)) fun j y hj hy => by
        rw [List.getElem?_range (by simp; omega)] at hy
        cases hy
        have : m.im[j]? = some (m.im[j]'hj) := List.getElem?_eq_getElem hj
        refine (dup_iff (x := m.im[j]'hj) (by rw [List.getElem?_append_left hj, this])).2 ?_
        rw [List.take_append_of_le_length (by omega)]
        exact (nodup_take m.im).1 h.dim j _ this
    have hlim := h.lim
    simp only [e1, e3, Bool.false_eq_true, if_false]
    rw [if_pos (by simp), wi64 (by omega) (by omega)]
end more
/-- Whatever is named twice. -/
theorem twice_ex {m : Mod} (h : m.good) {x : ByteArray} (hx : x ∈ m.ex) : ({ m with ex := m.ex ++ [x] } : Mod).flt.1 = 1 ∨ ({ m with ex := m.ex ++ [x] } : Mod).flt.1 = 3 := by
  by_cases ho : ({ m with ex := m.ex ++ [x] } : Mod).obj = 0
  · right
    have ht : ¬ (decide (0 ≤ ({ m with ex := m.ex ++ [x] } : Mod).twI) = false) := fun e => by
      have := ((twI_no (m := { m with ex := m.ex ++ [x] }) h.lim).1 e).1
      exact (List.nodup_append.1 this).2.2 x hx x (by simp) rfl
    have := flt_tw ho (fun s hs => by
      simp only [List.mem_cons, List.mem_append, List.not_mem_nil, or_false] at hs
      rcases hs with hs | (hs | hs) | hs
      · exact h.name s (by simp [hs])
      · exact h.name s (by simp [hs])
      · exact h.name s (by simp [hs, hx])
      · exact h.name s (by simp [hs])) rfl (by simpa using ht)
    rw [this]
  · exact .inl (flt_obj ho)
theorem twice_im {m : Mod} (h : m.good) {x : ByteArray} (hx : x ∈ m.im) : ({ m with im := m.im ++ [x] } : Mod).flt.1 = 1 ∨ ({ m with im := m.im ++ [x] } : Mod).flt.1 = 3 := by
  cases hl : ((m.im.length : Int) == 16) with
  | true => exact .inl (more_big (.inl hl))
  | false => rw [more_twice h hl (h.long x (by simp [hx])) hx]; exact .inr rfl
theorem twice_re {m : Mod} (h : m.good) {r : Rlc} (hr : r ∈ m.re) : ({ m with re := m.re ++ [r] } : Mod).flt.1 = 1 ∨ ({ m with re := m.re ++ [r] } : Mod).flt.1 = 6 := by
  by_cases ho : ({ m with re := m.re ++ [r] } : Mod).obj = 0
  · right
    have hp : ¬ (decide (0 ≤ fi ({ m with re := m.re ++ [r] } : Mod).badP (List.range (m.re ++ [r]).length)) = false) := fun e => by
      have := (places_no (m := { m with re := m.re ++ [r] }).1 e).1
      rw [show (({ m with re := m.re ++ [r] } : Mod).re) = m.re ++ [r] from rfl, List.map_append] at this
      exact (List.nodup_append.1 this).2.2 r.spot (List.mem_map_of_mem hr) r.spot (by simp) rfl
    have f := good_iff.2 h
    rw [flt_eq, ho, if_neg (by decide), (nmI_no (m := { m with re := m.re ++ [r] })).2 h.name, if_neg (by decide), (twI_no (m := { m with re := m.re ++ [r] }) h.lim).2 ⟨h.dex, h.dim⟩, if_neg (by decide)]
    simp only [f.co0, f.coE, Bool.or_false, Bool.false_eq_true, if_false]
    rw [show decide (0 ≤ fi badW m.co) = false from f.wds, if_neg (by decide), if_pos (by simpa using hp)]
  · exact .inl (flt_obj ho)
theorem k014 (r : Rlc) : (impK r = true ∧ (((r.k : Int) == 0) = true ∨ (((r.k : Int) == 0) = false ∧ ((r.k : Int) == 1) = true) ∨ (((r.k : Int) == 0) = false ∧ ((r.k : Int) == 1) = false ∧ ((r.k : Int) == 4) = true))) ∨ (impK r = false ∧ ((r.k : Int) == 0) = false ∧ ((r.k : Int) == 1) = false ∧ ((r.k : Int) == 4) = false) := by
  unfold impK
  cases ((r.k : Int) == 0) <;> cases ((r.k : Int) == 1) <;> cases ((r.k : Int) == 4) <;> simp
end Go.Abs
