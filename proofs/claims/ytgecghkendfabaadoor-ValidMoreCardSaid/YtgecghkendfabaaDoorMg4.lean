import Derived.Test.YtgecghkendfabaaDoorMg3
import Derived.Test.YtgecghkendfabaaDoorAb18
/- The document's answer about modules: kinds, calls that nothing names. -/
namespace Go.Abs
set_option linter.unusedSimpArgs false
set_option linter.unusedVariables false
open Go.Proofs Go.Nm Go.Wd
set_option linter.unusedVariables false
set_option maxRecDepth 8000
variable {H : Heap}
theorem neT {a b : Int} (h : (a == b) = true) : (a != b) = false := by rw [bne, h]; rfl
theorem neF {a b : Int} (h : (a == b) = false) : (a != b) = true := by rw [bne, h]; rfl
theorem nfit_alt {m : Mod} {r : Rlc} : (!m.fit r) = if r.spot.1 then ((!(((dec (m.co.getD r.a 0)).o : Int) == if ((r.k : Int) == 0) || ((r.k : Int) == 7) then 17 else 2)) || !((dec (m.co.getD r.a 0)).i == 0)) else !(((m.da.getD r.a 0 : Nat) : Int) == 0) := by
  unfold Mod.fit
  rw [same_call]
  cases r.spot.1
  · simp
  · simp only [if_true]
    cases ((r.k : Int) == 0) || ((r.k : Int) == 7) <;> simp [Bool.not_and]
set_option maxHeartbeats 2000000 in
theorem rkinds_c (m : Mod) (hm : m.ok) (hk : ∀ r ∈ m.re, (r.k : Int) ≤ 7) (hr : ∀ r ∈ m.re, r.a < m.len r) (H : Heap) : AC Tryd.prog 29 [m.tv] H (fun r H' => r = .s (.int .i64 (fi (fun r => !m.fit r) m.re)) ∧ H' = H) := by
  refine AC.body Tryd.func29 rfl rfl (n := 60) (res := [.tmp 2]) rfl rfl (by simp) ?_
  simp only [ent]
  simp only [Mod.tv_def]
  have hlre := hm.lre
  have hcs := later hm.co
  have hks := later hk
  have hrs := later hr
  clear hm hk hr
  (repeat' (first | refine wk ?_ | refine wk2 ?_ ?_ | with_reducible refine wkF fun _ _ _ => ?_ | with_reducible intro _ | exact ag | fail))
  rename_i v hv hvn
  refine ARun.rounds (fun i : Nat => ⟨[(1, .s (.pointer (some ⟨v, 0, none⟩))), (3, .s (.int .i64 i))], upd H v (.cells [.s (.string m.nm), .vs 1 (m.ex.map s1), .vs 1 (m.im.map s1), .vs 1 (m.co.map u1), .vs 1 (m.da.map u1), .vs 3 (m.re.map relE)])⟩) (fun i => m.re.length - i) (fun i => i ≤ m.re.length ∧ noneB (fun r => !m.fit r) m.re i) ?_ 0 ⟨by omega, .zero⟩ ?_
  · rintro i ⟨hi, hno⟩ next
    replace hno := later hno
    by_cases hlt : i < m.re.length
    · have h1 : (i : Int) < m.re.length := by omega
      have h2 : (0 : Int) ≤ i := by omega
      obtain ⟨x, hx⟩ := at_ hlt
      have hx1 := vget relE hx
      rw [relE_def] at hx1
      have hw := w64s (i := i) (by omega)
      have h3 : (0 : Int) ≤ x.a := by omega
      have I := fun H => rin_c x (hks.go x (List.mem_of_getElem? hx)) H
      have hra := hrs.go x (List.mem_of_getElem? hx)
      unfold Mod.len at hra
      have hnf := nfit_alt (m := m) (r := x)
      have hyes : (!m.fit x) = true → fi (fun r => !m.fit r) m.re = i := fun h => fi_some (p := fun r => !m.fit r) hx h hno.go
      have hnot := later fun (h : (!m.fit x) = false) => next.go (i + 1) ⟨by omega, hno.go.succ hx h⟩ (by omega)
      replace hyes := later hyes
      clear next hx
      cases hs : x.spot.1 with
      | false =>
        rw [hs] at hra I hnf
        simp only [if_false, Bool.false_eq_true] at hra hnf
        obtain ⟨z, hz⟩ := at_ hra
        have hz1 := vget u1 hz
        rw [u1_def] at hz1
        rw [List.getD_eq_getElem?_getD, hz] at hnf
        simp only [Option.getD_some] at hnf
        cases q : ((z : Int) == 0) with
        | false =>
          have qn := neF q
          rw [q] at hnf
          rw [hyes.go hnf]
          clear hnf hnot hyes hz hra hs
          (repeat' (first | refine wk ?_ | refine wk2 ?_ ?_ | with_reducible refine wkF fun _ _ _ => ?_ | with_reducible intro _ | refine Calling.eq (I _) ?_ | exact ag | fail))
          exact fin0
        | true =>
          have qn := neT q
          rw [q] at hnf
          have nx := hnot.go hnf
          clear hnf hnot hyes hz hra hs
          (repeat' (first | refine wk ?_ | refine wk2 ?_ ?_ | with_reducible refine wkF fun _ _ _ => ?_ | with_reducible intro _ | refine Calling.eq (I _) ?_ | exact ag | fail))
          exact ARun.weaken nx (leK (by exact sb))
      | true =>
        rw [hs] at hra I hnf
        simp only [if_true] at hra hnf
        obtain ⟨z, hz⟩ := at_ hra
        have hz1 := vget u1 hz
        rw [u1_def] at hz1
        have D := fun H => rDecode_c (H := H) (hcs.go z (List.mem_of_getElem? hz))
        rw [Ins.enc_def] at D
        rw [List.getD_eq_getElem?_getD, hz] at hnf
        simp only [Option.getD_some] at hnf
        clear hz hra hs
        cases q1 : ((x.k : Int) == 0) <;> cases q2 : ((x.k : Int) == 7)
        all_goals
          rw [q1, q2] at hnf
          simp only [Bool.or_true, Bool.or_false, Bool.false_eq_true, if_true, if_false] at hnf
        case false.false =>
          cases q3 : (((dec z).o : Int) == 2) with
          | false =>
            have q3n := neF q3
            rw [q3] at hnf
            rw [hyes.go (by rw [hnf]; rfl)]
            clear hnf hnot hyes
            (repeat' (first | refine wk ?_ | refine wk2 ?_ ?_ | with_reducible refine wkF fun _ _ _ => ?_ | with_reducible intro _ | refine Calling.eq (I _) ?_ | refine Calling.eq (D _) ?_ | exact ag | fail))
            exact fin0
          | true =>
            have q3n := neT q3
            cases q4 : ((dec z).i == 0) with
            | false =>
              have q4n := neF q4
              rw [q3, q4] at hnf
              rw [hyes.go (by rw [hnf]; rfl)]
              clear hnf hnot hyes
              (repeat' (first | refine wk ?_ | refine wk2 ?_ ?_ | with_reducible refine wkF fun _ _ _ => ?_ | with_reducible intro _ | refine Calling.eq (I _) ?_ | refine Calling.eq (D _) ?_ | exact ag | fail))
              exact fin0
            | true =>
              have q4n := neT q4
              rw [q3, q4] at hnf
              have nx := hnot.go (by rw [hnf]; rfl)
              clear hnf hnot hyes
              (repeat' (first | refine wk ?_ | refine wk2 ?_ ?_ | with_reducible refine wkF fun _ _ _ => ?_ | with_reducible intro _ | refine Calling.eq (I _) ?_ | refine Calling.eq (D _) ?_ | exact ag | fail))
              exact ARun.weaken nx (leK (by exact sb))
        all_goals
          cases q3 : (((dec z).o : Int) == 17) with
          | false =>
            have q3n := neF q3
            rw [q3] at hnf
            rw [hyes.go (by rw [hnf]; rfl)]
            clear hnf hnot hyes
            (repeat' (first | refine wk ?_ | refine wk2 ?_ ?_ | with_reducible refine wkF fun _ _ _ => ?_ | with_reducible intro _ | refine Calling.eq (I _) ?_ | refine Calling.eq (D _) ?_ | exact ag | fail))
            exact fin0
          | true =>
            have q3n := neT q3
            cases q4 : ((dec z).i == 0) with
            | false =>
              have q4n := neF q4
              rw [q3, q4] at hnf
              rw [hyes.go (by rw [hnf]; rfl)]
              clear hnf hnot hyes
              (repeat' (first | refine wk ?_ | refine wk2 ?_ ?_ | with_reducible refine wkF fun _ _ _ => ?_ | with_reducible intro _ | refine Calling.eq (I _) ?_ | refine Calling.eq (D _) ?_ | exact ag | fail))
              exact fin0
            | true =>
              have q4n := neT q4
              rw [q3, q4] at hnf
              have nx := hnot.go (by rw [hnf]; rfl)
              clear hnf hnot hyes
              (repeat' (first | refine wk ?_ | refine wk2 ?_ ?_ | with_reducible refine wkF fun _ _ _ => ?_ | with_reducible intro _ | refine Calling.eq (I _) ?_ | refine Calling.eq (D _) ?_ | exact ag | fail))
              exact ARun.weaken nx (leK (by exact sb))
    · have h1 : decide ((i : Int) < m.re.length) = false := by simp; omega
      have hA1 : fi (fun r => !m.fit r) m.re = -1 := fi_end (by omega) hno.go
      rw [hA1]
      clear next hA1
      (repeat' (first | refine wk ?_ | refine wk2 ?_ ?_ | with_reducible refine wkF fun _ _ _ => ?_ | with_reducible intro _ | exact ag | fail))
      exact fin0
  · exact leK (Sub.refl _)
end Go.Abs
/- The document's answer about modules: calls that nothing names, and all in all. -/
namespace Go.Abs
set_option linter.unusedSimpArgs false
set_option linter.unusedVariables false
open Go.Proofs Go.Nm Go.Wd
set_option linter.unusedVariables false
set_option maxRecDepth 8000
variable {H : Heap}
theorem acc_succ {m : Mod} {i k : Nat} {y : Rlc} (hy : m.re[k]? = some y) : inB (true, i) ((m.re.take (k + 1)).map Rlc.spot) = (inB (true, i) ((m.re.take k).map Rlc.spot) || (((y.a : Int) == (i : Int)) && y.spot.1)) := by
  rw [← spots_succ hy, inB_cons]
  congr 1
  have : y.spot = (y.spot.1, y.a) := rfl
  rw [this]
  rw [Bool.eq_iff_iff]
  simp
  constructor
  · rintro ⟨h1, h2⟩; exact ⟨by omega, h1⟩
  · rintro ⟨h1, h2⟩; exact ⟨h2, by omega⟩
set_option maxHeartbeats 2000000 in
theorem rloose_c (m : Mod) (hm : m.ok) (hk : ∀ r ∈ m.re, (r.k : Int) ≤ 7) (H : Heap) : AC Tryd.prog 31 [m.tv] H (fun r H' => r = .s (.int .i64 (fi m.loose (List.range m.co.length))) ∧ H' = H) := by
  refine AC.body Tryd.func31 rfl rfl (n := 60) (res := [.tmp 2]) rfl rfl (by simp) ?_
  simp only [ent]
  simp only [Mod.tv_def]
  have hlre := hm.lre
  have hlco := hm.lco
  have hcs := later hm.co
  have hrs := later hm.re
  have hks := later hk
  clear hm hk
  (repeat' (first | refine wk ?_ | refine wk2 ?_ ?_ | with_reducible refine wkF fun _ _ _ => ?_ | with_reducible intro _ | exact ag | fail))
  rename_i v hv hvn
  refine ARun.rounds (fun i : Nat => ⟨[(1, .s (.pointer (some ⟨v, 0, none⟩))), (3, .s (.int .i64 i))], upd H v (.cells [.s (.string m.nm), .vs 1 (m.ex.map s1), .vs 1 (m.im.map s1), .vs 1 (m.co.map u1), .vs 1 (m.da.map u1), .vs 3 (m.re.map relE)])⟩) (fun i => m.co.length - i) (fun i => i ≤ m.co.length ∧ noneB m.loose (List.range m.co.length) i) ?_ 0 ⟨by omega, .zero⟩ ?_
  · rintro i ⟨hi, hno⟩ next
    replace hno := later hno
    by_cases hlt : i < m.co.length
    · have h1 : (i : Int) < m.co.length := by omega
      have h2 : (0 : Int) ≤ i := by omega
      obtain ⟨x, hx⟩ := at_ hlt
      have hx1 := vget u1 hx
      rw [u1_def] at hx1
      have hw := w64s (i := i) (by omega)
      have D := fun H => rDecode_c (H := H) (hcs.go x (List.mem_of_getElem? hx))
      rw [Ins.enc_def] at D
      have hbad : m.loose i = ((((dec x).o : Int) == 17) && !(inB (true, i) (m.re.map Rlc.spot))) := by unfold Mod.loose; rw [hx]
      have hyes := later fun (h : m.loose i = true) => fi_some (range_get hlt) h hno.go
      have hnot := later fun (h : m.loose i = false) => next.go (i + 1) ⟨by omega, hno.go.succ (range_get hlt) h⟩ (by omega)
      clear next hx
      (repeat' (first | refine wk ?_ | refine wk2 ?_ ?_ | with_reducible refine wkF fun _ _ _ => ?_ | with_reducible intro _ | refine Calling.eq (D _) ?_ | exact ag | fail))
      clear D
      rename_i b hb hbn
      refine ARun.rounds (fun k : Nat => ⟨[(1, .s (.pointer (some ⟨v, 0, none⟩))), (3, .s (.int .i64 i)), (4, .s (.pointer (some ⟨b, 0, none⟩))), (6, .s (.bool (inB (true, i) ((m.re.take k).map Rlc.spot)))), (7, .s (.int .i64 k))],
        upd (upd H v (.cells [.s (.string m.nm), .vs 1 (m.ex.map s1), .vs 1 (m.im.map s1), .vs 1 (m.co.map u1), .vs 1 (m.da.map u1), .vs 3 (m.re.map relE)])) b (.cells [.s (.int .u8 (dec x).o), .s (.int .u8 (dec x).d), .s (.int .u8 (dec x).a), .s (.int .u8 (dec x).b), .s (.int .i32 (dec x).i)])⟩) (fun k => m.re.length - k) (fun k => k ≤ m.re.length) ?_ 0 (by omega) ?_
      · rintro k hk nextk
        by_cases hkl : k < m.re.length
        · have g1 : (k : Int) < m.re.length := by omega
          have g2 : (0 : Int) ≤ k := by omega
          obtain ⟨y, hy⟩ := at_ hkl
          have hy1 := vget relE hy
          rw [relE_def] at hy1
          have hw2 := w64s (i := k) (by omega)
          have e16 := u16_i64 ((hrs.go y (List.mem_of_getElem? hy)).2.1)
          have J := fun H => rin_c y (hks.go y (List.mem_of_getElem? hy)) H
          have nx := nextk.go (k + 1) (by omega) (by omega)
          rw [acc_succ hy] at nx
          clear hy nextk hyes hnot hbad
          generalize inB (true, i) ((m.re.take k).map Rlc.spot) = acc at nx ⊢
          cases acc with
          | true =>
            simp only [Bool.true_or] at nx
            (repeat' (first | refine wk ?_ | refine wk2 ?_ ?_ | with_reducible refine wkF fun _ _ _ => ?_ | with_reducible intro _ | exact ag | fail))
            exact ARun.weaken nx (leK (by exact sb))
          | false =>
            simp only [Bool.false_or] at nx
            cases q1 : ((y.a : Int) == (i : Int)) with
            | false =>
              rw [q1, Bool.false_and] at nx
              (repeat' (first | refine wk ?_ | refine wk2 ?_ ?_ | with_reducible refine wkF fun _ _ _ => ?_ | with_reducible intro _ | exact ag | fail))
              exact ARun.weaken nx (leK (by exact sb))
            | true =>
              rw [q1, Bool.true_and] at nx
              (repeat' (first | refine wk ?_ | refine wk2 ?_ ?_ | with_reducible refine wkF fun _ _ _ => ?_ | with_reducible intro _ | refine Calling.eq (J _) ?_ | exact ag | fail))
              exact ARun.weaken nx (leK (by exact sb))
        · have g1 : decide ((k : Int) < m.re.length) = false := by simp; omega
          rw [List.take_of_length_le (by omega)]
          clear nextk
          generalize inB (true, i) (m.re.map Rlc.spot) = acc at hbad ⊢
          cases q1 : (((dec x).o : Int) == 17) with
          | false =>
            rw [q1, Bool.false_and] at hbad
            have nx := hnot.go hbad
            clear hyes hnot hbad
            (repeat' (first | refine wk ?_ | refine wk2 ?_ ?_ | with_reducible refine wkF fun _ _ _ => ?_ | with_reducible intro _ | exact ag | fail))
            exact ARun.weaken nx (leK (by exact sb))
          | true =>
            rw [q1, Bool.true_and] at hbad
            cases acc with
            | true =>
              have nx := hnot.go hbad
              clear hyes hnot hbad
              (repeat' (first | refine wk ?_ | refine wk2 ?_ ?_ | with_reducible refine wkF fun _ _ _ => ?_ | with_reducible intro _ | exact ag | fail))
              exact ARun.weaken nx (leK (by exact sb))
            | false =>
              rw [hyes.go hbad]
              clear hyes hnot hbad
              (repeat' (first | refine wk ?_ | refine wk2 ?_ ?_ | with_reducible refine wkF fun _ _ _ => ?_ | with_reducible intro _ | exact ag | fail))
              exact fin0
      · have e0 : inB (true, i) (List.map Rlc.spot (List.take 0 m.re)) = false := rfl
        have e1 : inB (true, i) ([] : List (Bool × Nat)) = false := rfl
        exact leK (Sub.refl _)
    · have h1 : decide ((i : Int) < m.co.length) = false := by simp; omega
      have hA1 : fi m.loose (List.range m.co.length) = -1 := fi_end (by simp; omega) hno.go
      rw [hA1]
      clear next hA1
      (repeat' (first | refine wk ?_ | refine wk2 ?_ ?_ | with_reducible refine wkF fun _ _ _ => ?_ | with_reducible intro _ | exact ag | fail))
      exact fin0
  · exact leK (Sub.refl _)
theorem fi_cons {α : Type} (p : α → Bool) (x : α) (l : List α) : fi p (x :: l) = if p x then 0 else if decide (0 ≤ fi p l) then fi p l + 1 else -1 := by
  unfold fi
  rw [List.findIdx?_cons]
  cases p x with
  | true => rfl
  | false =>
    simp only [Bool.false_eq_true, if_false]
    cases l.findIdx? p with
    | none => rfl
    | some j => simp
theorem fi_lt {α : Type} (p : α → Bool) (l : List α) : fi p l < l.length + 1 ∧ -1 ≤ fi p l := by
  unfold fi
  cases h : l.findIdx? p with
  | none => constructor <;> simp <;> omega
  | some j =>
    have := (List.findIdx?_eq_some_iff_getElem.1 h).1
    constructor
    · simp only; omega
    · simp only; omega
theorem fi_neg {α : Type} {p : α → Bool} {l : List α} (h : decide (0 ≤ fi p l) = false) : fi p l = -1 := by
  have := (fi_lt p l).2
  have := of_decide_eq_false h
  omega
/-- Names, then texts that stand twice: what both sides tell. -/
theorem txt_alt {m : Mod} (h : m.obj = 0) : m.txt = if decide (0 ≤ m.nmI) then (2, m.nmI) else if decide (0 ≤ m.twI) then (3, m.twI) else (0, 0) := by
  obtain ⟨b1, b2, b3, b4, b5⟩ := obj_small (m := m) (by rw [h]; rfl)
  have x1 := fi_lt badN m.ex
  have x2 := fi_lt badN m.im
  have x3 := fi_lt (dup m.ex) (List.range m.ex.length)
  have x4 := fi_lt (dup m.im) (List.range m.im.length)
  rw [List.length_range] at x3 x4
  have w1 : IntKind.i64.wrap (9 + fi badN m.im) = 9 + fi badN m.im := wi64 (by omega) (by omega)
  have w2 : IntKind.i64.wrap (8 + rep m.im) = 8 + rep m.im := by unfold rep; exact wi64 (by omega) (by omega)
  unfold Mod.txt Mod.nmI Mod.twI
  rw [w1, w2, fi_cons]
  unfold rep
  generalize fi badN m.ex = a at *
  generalize fi badN m.im = b at *
  generalize fi (dup m.ex) (List.range m.ex.length) = c at *
  generalize fi (dup m.im) (List.range m.im.length) = d at *
  cases badN m.nm
  · by_cases h1 : 0 ≤ a
    · have e : decide (0 ≤ a) = true := by simpa using h1
      have e2 : decide (0 ≤ a + 1) = true := by simp; omega
      have e3 : decide (0 ≤ 1 + a) = true := by simp; omega
      simp [e, e2, e3, Int.add_comm]
    · have e : decide (0 ≤ a) = false := by simpa using h1
      by_cases h2 : 0 ≤ b
      · have f : decide (0 ≤ b) = true := by simpa using h2
        have f2 : decide (0 ≤ 9 + b) = true := by simp; omega
        simp [e, f, f2]
      · have f : decide (0 ≤ b) = false := by simpa using h2
        by_cases h3 : 0 ≤ c
        · have g : decide (0 ≤ c) = true := by simpa using h3
          simp [e, f, g]
        · have g : decide (0 ≤ c) = false := by simpa using h3
          by_cases h4 : 0 ≤ d
          · have k : decide (0 ≤ d) = true := by simpa using h4
            have k2 : decide (0 ≤ 8 + d) = true := by simp; omega
            simp [e, f, g, k, k2]
          · have k : decide (0 ≤ d) = false := by simpa using h4
            simp [e, f, g, k]
  · simp
end Go.Abs
/- The document's answer about modules, all in all. -/
namespace Go.Abs
set_option linter.unusedSimpArgs false
set_option linter.unusedVariables false
set_option maxHeartbeats 4000000
open Go.Proofs Go.Nm Go.Wd
set_option linter.unusedVariables false
set_option maxRecDepth 8000
variable {H : Heap}
theorem fi_all {α : Type} {p : α → Bool} {l : List α} (h : decide (0 ≤ fi p l) = false) : ∀ x ∈ l, p x = false := by
  unfold fi at h
  cases hf : l.findIdx? p with
  | none => exact List.findIdx?_eq_none_iff.1 hf
  | some j => rw [hf] at h; simp at h
theorem obj_zero {m : Mod} (h : m.obj = 0) : m.short ∧ (∀ r ∈ m.re, (r.k : Int) ≤ 7) := by
  rw [obj_alt] at h
  cases q0 : m.big with
  | true => rw [q0, if_pos rfl] at h; cases h
  | false =>
    rw [q0, if_neg (by decide)] at h
    cases q1 : longB m.nm || (decide (0 ≤ fi longB m.ex) || decide (0 ≤ fi longB m.im)) with
    | true => rw [q1, if_pos rfl] at h; cases h
    | false =>
      rw [q1, if_neg (by decide)] at h
      cases q2 : decide (0 ≤ fi kindB m.re) with
      | true => rw [q2, if_pos rfl] at h; cases h
      | false =>
        simp only [Bool.or_eq_false_iff] at q1
        obtain ⟨a, b, c⟩ := q1
        have lf : ∀ s, longB s = false → few s := fun s hs => by unfold longB at hs; unfold few; simp at hs; omega
        refine ⟨⟨lf _ a, fun s hs => lf s (fi_all b s hs), fun s hs => lf s (fi_all c s hs)⟩, fun r hr => ?_⟩
        have := fi_all q2 r hr
        unfold kindB at this; simp at this; omega
theorem places_all {m : Mod} (h : decide (0 ≤ fi m.badP (List.range m.re.length)) = false) : ∀ r ∈ m.re, r.a < m.len r := by
  intro r hr
  obtain ⟨j, hj⟩ := List.mem_iff_getElem?.1 hr
  have hjl := (List.getElem?_eq_some_iff.1 hj).1
  have := fi_all h j (by simpa using hjl)
  unfold Mod.badP at this
  rw [hj] at this
  have := of_decide_eq_false (Bool.or_eq_false_iff.1 this).2
  omega
theorem rmodule_c (m : Mod) (hm : m.ok) (H : Heap) : AC Tryd.prog 13 [m.tv] H (fun r H' => r = .tup [.s (.int .i64 m.flt.1), .s (.int .i64 m.flt.2)] ∧ H' = H) := by
  refine AC.body Tryd.func13 rfl rfl (n := 56) (res := [.tmp 2, .tmp 3]) rfl rfl (by simp) ?_
  simp only [ent]
  have O := fun H => r10Check_c m hm H
  have hfl : m.flt = if m.obj != 0 then (1, 0) else if m.txt.1 != 0 then m.txt else if m.wrd.1 != 0 then m.wrd else m.rel := rfl
  cases q0 : (m.obj != 0) with
  | true =>
    rw [q0, if_pos rfl] at hfl
    rw [hfl]
    clear hfl hm
    simp only [Mod.tv_def] at O ⊢
    (repeat' (first | refine wk ?_ | refine wk2 ?_ ?_ | with_reducible refine wkF fun _ _ _ => ?_ | with_reducible intro _ | refine Calling.eq (O _) ?_ | exact ag | fail))
    exact fin0
  | false =>
    have h0 : m.obj = 0 := by simpa using q0
    obtain ⟨hs, hk⟩ := obj_zero h0
    rw [q0, if_neg (by decide), txt_alt h0] at hfl
    have N := fun H => rnames_c m hm hs H
    have T := fun H => rtwice_c m hm H
    have Wd := fun H => rwords_c m hm H
    have P := fun H => rplaces_c m hm hk H
    have K := later fun hr H => rkinds_c m hm hk hr H
    have Wh := fun H => rwhich_c m hm H
    have L := fun H => rloose_c m hm hk H
    have hwr : m.wrd = if ((m.co.length : Nat) : Int) == 0 || decide (((m.co.length : Nat) : Int) < m.ex.length) then (4, 0) else if decide (0 ≤ fi badW m.co) then (5, fi badW m.co) else (0, 0) := rfl
    have hrl : m.rel = if decide (0 ≤ fi m.badP (List.range m.re.length)) then (6, fi m.badP (List.range m.re.length)) else if decide (0 ≤ fi (fun r => !m.fit r) m.re) then (7, fi (fun r => !m.fit r) m.re)
      else if decide (0 ≤ fi (fun r => !m.thr r) m.re) then (8, fi (fun r => !m.thr r) m.re) else if decide (0 ≤ fi m.loose (List.range m.co.length)) then (9, fi m.loose (List.range m.co.length)) else (0, 0) := rfl
    have hpl := later (fun h => places_all (m := m) h)
    clear hm h0 hs hk
    simp only [Mod.tv_def] at O N T Wd P K Wh L ⊢
    generalize m.nmI = n at *
    generalize m.twI = t at *
    cases q1 : decide (0 ≤ n) with
    | true =>
      simp only [q1, if_true] at hfl
      replace hfl : m.flt = (2, n) := hfl
      rw [hfl]
      clear hfl hwr hrl
      (repeat' (first | refine wk ?_ | refine wk2 ?_ ?_ | with_reducible refine wkF fun _ _ _ => ?_ | with_reducible intro _ | refine Calling.eq (O _) ?_ | refine Calling.eq (N _) ?_ | exact ag | fail))
      exact fin0
    | false =>
      simp only [q1, Bool.false_eq_true, if_false] at hfl
      cases q2 : decide (0 ≤ t) with
      | true =>
        simp only [q2, if_true] at hfl
        replace hfl : m.flt = (3, t) := hfl
        rw [hfl]
        clear hfl hwr hrl
        (repeat' (first | refine wk ?_ | refine wk2 ?_ ?_ | with_reducible refine wkF fun _ _ _ => ?_ | with_reducible intro _ | refine Calling.eq (O _) ?_ | refine Calling.eq (N _) ?_ | refine Calling.eq (T _) ?_ | exact ag | fail))
        exact fin0
      | false =>
        simp only [q2, Bool.false_eq_true, if_false] at hfl
        replace hfl : m.flt = if m.wrd.1 != 0 then m.wrd else m.rel := hfl
        rw [hwr] at hfl
        clear hwr
        cases q3 : (((m.co.length : Nat) : Int) == 0) with
        | true =>
          simp only [q3, Bool.true_or, if_true] at hfl
          replace hfl : m.flt = (4, 0) := hfl
          rw [hfl]
          clear hfl hrl
          (repeat' (first | refine wk ?_ | refine wk2 ?_ ?_ | with_reducible refine wkF fun _ _ _ => ?_ | with_reducible intro _ | refine Calling.eq (O _) ?_ | refine Calling.eq (N _) ?_ | refine Calling.eq (T _) ?_ | exact ag | fail))
          exact fin0
        | false => cases q4 : decide (((m.co.length : Nat) : Int) < m.ex.length) with
         | true =>
          simp only [q3, q4, Bool.false_or, if_true] at hfl
          replace hfl : m.flt = (4, 0) := hfl
          rw [hfl]
          clear hfl hrl
          (repeat' (first | refine wk ?_ | refine wk2 ?_ ?_ | with_reducible refine wkF fun _ _ _ => ?_ | with_reducible intro _ | refine Calling.eq (O _) ?_ | refine Calling.eq (N _) ?_ | refine Calling.eq (T _) ?_ | exact ag | fail))
          exact fin0
         | false =>
          simp only [q3, q4, Bool.false_or, Bool.false_eq_true, if_false] at hfl
          cases q5 : decide (0 ≤ fi badW m.co) with
          | true =>
            simp only [q5, if_true] at hfl
            replace hfl : m.flt = (5, fi badW m.co) := hfl
            rw [hfl]
            clear hfl hrl
            (repeat' (first | refine wk ?_ | refine wk2 ?_ ?_ | with_reducible refine wkF fun _ _ _ => ?_ | with_reducible intro _ | refine Calling.eq (O _) ?_ | refine Calling.eq (N _) ?_ | refine Calling.eq (T _) ?_ | refine Calling.eq (Wd _) ?_ | exact ag | fail))
            exact fin0
          | false =>
            simp only [q5, Bool.false_eq_true, if_false] at hfl
            replace hfl : m.flt = m.rel := hfl
            rw [hrl] at hfl
            clear hrl
            cases q6 : decide (0 ≤ fi m.badP (List.range m.re.length)) with
            | true =>
              rw [q6, if_pos rfl] at hfl
              rw [hfl]
              clear hfl
              (repeat' (first | refine wk ?_ | refine wk2 ?_ ?_ | with_reducible refine wkF fun _ _ _ => ?_ | with_reducible intro _ | refine Calling.eq (O _) ?_ | refine Calling.eq (N _) ?_ | refine Calling.eq (T _) ?_ | refine Calling.eq (Wd _) ?_ | refine Calling.eq (P _) ?_ | exact ag | fail))
              exact fin0
            | false =>
              rw [q6, if_neg (by decide)] at hfl
              have K := K.go (hpl.go q6)
              clear hpl
              cases q7 : decide (0 ≤ fi (fun r => !m.fit r) m.re) with
              | true =>
                rw [q7, if_pos rfl] at hfl
                rw [hfl]
                clear hfl
                (repeat' (first | refine wk ?_ | refine wk2 ?_ ?_ | with_reducible refine wkF fun _ _ _ => ?_ | with_reducible intro _ | refine Calling.eq (O _) ?_ | refine Calling.eq (N _) ?_ | refine Calling.eq (T _) ?_ | refine Calling.eq (Wd _) ?_ | refine Calling.eq (P _) ?_ | refine Calling.eq (K _) ?_ | exact ag | fail))
                exact fin0
              | false =>
                rw [q7, if_neg (by decide)] at hfl
                cases q8 : decide (0 ≤ fi (fun r => !m.thr r) m.re) with
                | true =>
                  rw [q8, if_pos rfl] at hfl
                  rw [hfl]
                  clear hfl
                  (repeat' (first | refine wk ?_ | refine wk2 ?_ ?_ | with_reducible refine wkF fun _ _ _ => ?_ | with_reducible intro _ | refine Calling.eq (O _) ?_ | refine Calling.eq (N _) ?_ | refine Calling.eq (T _) ?_ | refine Calling.eq (Wd _) ?_ | refine Calling.eq (P _) ?_ | refine Calling.eq (K _) ?_ | refine Calling.eq (Wh _) ?_ | exact ag | fail))
                  exact fin0
                | false =>
                  rw [q8, if_neg (by decide)] at hfl
                  cases q9 : decide (0 ≤ fi m.loose (List.range m.co.length)) with
                  | true =>
                    rw [q9, if_pos rfl] at hfl
                    rw [hfl]
                    clear hfl
                    (repeat' (first | refine wk ?_ | refine wk2 ?_ ?_ | with_reducible refine wkF fun _ _ _ => ?_ | with_reducible intro _ | refine Calling.eq (O _) ?_ | refine Calling.eq (N _) ?_ | refine Calling.eq (T _) ?_ | refine Calling.eq (Wd _) ?_ | refine Calling.eq (P _) ?_ | refine Calling.eq (K _) ?_ | refine Calling.eq (Wh _) ?_ | refine Calling.eq (L _) ?_ | exact ag | fail))
                    exact fin0
                  | false =>
                    rw [q9, if_neg (by decide)] at hfl
                    rw [hfl]
                    clear hfl
                    (repeat' (first | refine wk ?_ | refine wk2 ?_ ?_ | with_reducible refine wkF fun _ _ _ => ?_ | with_reducible intro _ | refine Calling.eq (O _) ?_ | refine Calling.eq (N _) ?_ | refine Calling.eq (T _) ?_ | refine Calling.eq (Wd _) ?_ | refine Calling.eq (P _) ?_ | refine Calling.eq (K _) ?_ | refine Calling.eq (Wh _) ?_ | refine Calling.eq (L _) ?_ | exact ag | fail))
                    exact fin0
theorem rvCheck_c (m : Mod) (hm : m.ok) (H : Heap) : AC Tryd.prog 15 [m.tv] H (fun r H' => r = .s (.int .i64 m.chk) ∧ H' = H) := by
  refine AC.body Tryd.func15 rfl rfl (n := 12) (res := [.tmp 2]) rfl rfl (by simp) ?_
  simp only [ent]
  have M := fun H => rmodule_c m hm H
  clear hm
  simp only [Mod.tv_def] at M ⊢
  (repeat' (first | refine wk ?_ | refine wk2 ?_ ?_ | with_reducible refine wkF fun _ _ _ => ?_ | with_reducible intro _ | refine Calling.eq (M _) ?_ | exact ag | fail))
  all_goals
    refine fin1 ⟨?_, rfl⟩
    first | rfl | (simp only [resV, Mod.chk, *, Bool.or_false, Bool.or_true, Bool.false_or, Bool.true_or, Bool.and_false, Bool.and_true, Bool.false_and, Bool.true_and, Bool.not_true, Bool.not_false, Bool.false_eq_true, if_true, if_false]; done) | (simp only [resV, Mod.chk]; simp_all; done) | (simp only [resV, Mod.chk]; simp_all <;> omega)
end Go.Abs
/- The document's answer about modules: sameness and size; patches. -/
namespace Go.Abs
set_option linter.unusedSimpArgs false
set_option linter.unusedVariables false
set_option maxHeartbeats 4000000
open Go.Proofs Go.Nm Go.Wd
set_option linter.unusedVariables false
set_option maxRecDepth 8000
variable {H : Heap}
theorem sameT_c (L M : List ByteArray) (hL : L.length < 4611686018427387904) (H : Heap) :
    AC Tryd.prog 32 [.vs 1 (L.map s1), .vs 1 (M.map s1)] H (fun r H' => r = .s (.bool (decide (L = M))) ∧ H' = H) := by
  refine AC.body Tryd.func32 rfl rfl (n := 26) (res := [.tmp 4]) rfl rfl (by simp) ?_
  simp only [ent]
  by_cases hl : L.length = M.length
  · have hb : (((L.length : Nat) : Int) != ((M.length : Nat) : Int)) = false := by simp; omega
    replace hl := later hl
    (repeat' (first | refine wk ?_ | refine wk2 ?_ ?_ | with_reducible refine wkF fun _ _ _ => ?_ | with_reducible intro _ | exact ag | fail))
    clear hb
    refine ARun.rounds (fun i : Nat => ⟨[(0, .vs 1 (L.map s1)), (1, .vs 1 (M.map s1)), (5, .s (.int .i64 i))], H⟩) (fun i => L.length - i) (fun i => i ≤ L.length ∧ ∀ j, j < i → L[j]? = M[j]?) ?_ 0 ⟨by omega, fun j h => by omega⟩ ?_
    · rintro i ⟨hi, hno⟩ next
      replace hno := later hno
      by_cases hlt : i < L.length
      · have h1 : (i : Int) < L.length := by omega
        have h2 : (0 : Int) ≤ i := by omega
        obtain ⟨x, hx⟩ := at_ hlt
        obtain ⟨y, hy⟩ := at_ (l := M) (i := i) (by have := hl.go; omega)
        have hx1 := vget s1 hx
        have hy1 := vget s1 hy
        have hw := w64s (i := i) (by omega)
        simp only [s1_def] at hx1 hy1
        replace hx := later hx
        replace hy := later hy
        by_cases hxy : x = y
        · have hq : (!(x.toList == y.toList)) = false := by subst hxy; simp
          replace hxy := later hxy
          (repeat' (first | refine wk ?_ | refine wk2 ?_ ?_ | with_reducible refine wkF fun _ _ _ => ?_ | with_reducible intro _ | exact ag | fail))
          refine ARun.drawB mixed [([], [0, 1, 2, 3, 4, 5, 6, 7, 8], none)] (by kernel_rfl) (by rfl) ?_
          (repeat' (first | refine wk ?_ | refine wk2 ?_ ?_ | with_reducible refine wkF fun _ _ _ => ?_ | with_reducible intro _ | exact ag | fail))
          exact ARun.weaken (next.go (i + 1) ⟨by omega, fun j hj => by
            rcases Nat.lt_or_ge j i with h | h
            · exact hno.go j h
            · rw [show j = i by omega, hx.go, hy.go, hxy.go]⟩ (by omega)) (leK (Sub.refl _))
        · have hq : (!(x.toList == y.toList)) = true := by simp [toList_inj]; exact fun e => hxy (by first | exact e | omega)
          have hne : decide (L = M) = false := by
            simp only [decide_eq_false_iff_not]; intro e
            have h3 := hx.go; rw [e, hy.go] at h3; cases h3; exact hxy rfl
          rw [hne]
          clear hne next hxy
          (repeat' (first | refine wk ?_ | refine wk2 ?_ ?_ | with_reducible refine wkF fun _ _ _ => ?_ | with_reducible intro _ | exact ag | fail))
          refine ARun.drawB mixed [([], [0, 1, 2, 3, 4, 5, 6, 7, 8], none)] (by kernel_rfl) (by rfl) ?_
          (repeat' (first | refine wk ?_ | refine wk2 ?_ ?_ | with_reducible refine wkF fun _ _ _ => ?_ | with_reducible intro _ | exact ag | fail))
          exact fin0
      · have h1 : decide ((i : Int) < L.length) = false := by simp; omega
        have he : decide (L = M) = true := by
          simp only [decide_eq_true_eq]
          refine List.ext_getElem? fun j => ?_
          rcases Nat.lt_or_ge j i with h | h
          · exact hno.go j h
          · have := hl.go; rw [List.getElem?_eq_none (by omega), List.getElem?_eq_none (by omega)]
        rw [he]
        clear he next
        (repeat' (first | refine wk ?_ | refine wk2 ?_ ?_ | with_reducible refine wkF fun _ _ _ => ?_ | with_reducible intro _ | exact ag | fail))
        exact fin0
    · exact leK (Sub.refl _)
  · have hb : (((L.length : Nat) : Int) != ((M.length : Nat) : Int)) = true := by simp; omega
    have hne : decide (L = M) = false := by simp only [decide_eq_false_iff_not]; rintro rfl; exact hl rfl
    rw [hne]
    clear hne
    (repeat' (first | refine wk ?_ | refine wk2 ?_ ?_ | with_reducible refine wkF fun _ _ _ => ?_ | with_reducible intro _ | exact ag | fail))
    exact fin0

theorem sameW_c (L M : List Nat) (hL : L.length < 4611686018427387904) (H : Heap) :
    AC Tryd.prog 33 [.vs 1 (L.map u1), .vs 1 (M.map u1)] H (fun r H' => r = .s (.bool (decide (L = M))) ∧ H' = H) := by
  refine AC.body Tryd.func33 rfl rfl (n := 26) (res := [.tmp 4]) rfl rfl (by simp) ?_
  simp only [ent]
  by_cases hl : L.length = M.length
  · have hb : (((L.length : Nat) : Int) != ((M.length : Nat) : Int)) = false := by simp; omega
    replace hl := later hl
    (repeat' (first | refine wk ?_ | refine wk2 ?_ ?_ | with_reducible refine wkF fun _ _ _ => ?_ | with_reducible intro _ | exact ag | fail))
    clear hb
    refine ARun.rounds (fun i : Nat => ⟨[(0, .vs 1 (L.map u1)), (1, .vs 1 (M.map u1)), (5, .s (.int .i64 i))], H⟩) (fun i => L.length - i) (fun i => i ≤ L.length ∧ ∀ j, j < i → L[j]? = M[j]?) ?_ 0 ⟨by omega, fun j h => by omega⟩ ?_
    · rintro i ⟨hi, hno⟩ next
      replace hno := later hno
      by_cases hlt : i < L.length
      · have h1 : (i : Int) < L.length := by omega
        have h2 : (0 : Int) ≤ i := by omega
        obtain ⟨x, hx⟩ := at_ hlt
        obtain ⟨y, hy⟩ := at_ (l := M) (i := i) (by have := hl.go; omega)
        have hx1 := vget u1 hx
        have hy1 := vget u1 hy
        have hw := w64s (i := i) (by omega)
        simp only [u1_def] at hx1 hy1
        replace hx := later hx
        replace hy := later hy
        by_cases hxy : x = y
        · have hq : (((x : Int) != (y : Int))) = false := by subst hxy; simp
          replace hxy := later hxy
          (repeat' (first | refine wk ?_ | refine wk2 ?_ ?_ | with_reducible refine wkF fun _ _ _ => ?_ | with_reducible intro _ | exact ag | fail))
          refine ARun.drawB mixed [([], [0, 1, 2, 3, 4, 5, 6, 7, 8], none)] (by kernel_rfl) (by rfl) ?_
          (repeat' (first | refine wk ?_ | refine wk2 ?_ ?_ | with_reducible refine wkF fun _ _ _ => ?_ | with_reducible intro _ | exact ag | fail))
          exact ARun.weaken (next.go (i + 1) ⟨by omega, fun j hj => by
            rcases Nat.lt_or_ge j i with h | h
            · exact hno.go j h
            · rw [show j = i by omega, hx.go, hy.go, hxy.go]⟩ (by omega)) (leK (Sub.refl _))
        · have hq : (((x : Int) != (y : Int))) = true := by simp [toList_inj]; exact fun e => hxy (by first | exact e | omega)
          have hne : decide (L = M) = false := by
            simp only [decide_eq_false_iff_not]; intro e
            have h3 := hx.go; rw [e, hy.go] at h3; cases h3; exact hxy rfl
          rw [hne]
          clear hne next hxy
          (repeat' (first | refine wk ?_ | refine wk2 ?_ ?_ | with_reducible refine wkF fun _ _ _ => ?_ | with_reducible intro _ | exact ag | fail))
          refine ARun.drawB mixed [([], [0, 1, 2, 3, 4, 5, 6, 7, 8], none)] (by kernel_rfl) (by rfl) ?_
          (repeat' (first | refine wk ?_ | refine wk2 ?_ ?_ | with_reducible refine wkF fun _ _ _ => ?_ | with_reducible intro _ | exact ag | fail))
          exact fin0
      · have h1 : decide ((i : Int) < L.length) = false := by simp; omega
        have he : decide (L = M) = true := by
          simp only [decide_eq_true_eq]
          refine List.ext_getElem? fun j => ?_
          rcases Nat.lt_or_ge j i with h | h
          · exact hno.go j h
          · have := hl.go; rw [List.getElem?_eq_none (by omega), List.getElem?_eq_none (by omega)]
        rw [he]
        clear he next
        (repeat' (first | refine wk ?_ | refine wk2 ?_ ?_ | with_reducible refine wkF fun _ _ _ => ?_ | with_reducible intro _ | exact ag | fail))
        exact fin0
    · exact leK (Sub.refl _)
  · have hb : (((L.length : Nat) : Int) != ((M.length : Nat) : Int)) = true := by simp; omega
    have hne : decide (L = M) = false := by simp only [decide_eq_false_iff_not]; rintro rfl; exact hl rfl
    rw [hne]
    clear hne
    (repeat' (first | refine wk ?_ | refine wk2 ?_ ?_ | with_reducible refine wkF fun _ _ _ => ?_ | with_reducible intro _ | exact ag | fail))
    exact fin0

theorem rpatch_c (m n : Mod) (hm : m.ok) (H : Heap) : AC Tryd.prog 19 [m.tv, n.tv] H (fun r H' => r = .s (.int .i64 (m.pat n)) ∧ H' = H) := by
  refine AC.body Tryd.func19 rfl rfl (n := 11) (res := [.tmp 4]) rfl rfl (by simp) ?_
  simp only [ent]
  have E := fun H => sameT_c m.ex n.ex hm.lex H
  have hp : m.pat n = if decide (m.ex = n.ex) then 0 else 27 := by unfold Mod.pat; simp
  rw [hp]
  clear hm hp
  generalize decide (m.ex = n.ex) = c at E ⊢
  simp only [Mod.tv_def]
  cases c
  all_goals
    (repeat' (first | refine wk ?_ | refine wk2 ?_ ?_ | with_reducible refine wkF fun _ _ _ => ?_ | with_reducible intro _ | refine Calling.eq (E _) ?_ | exact ag | fail))
    exact fin0
def mn (i : Nat) : Int := if (65536 : Int) < (i : Int) then 65536 else (i : Int)
def Mod.size (m : Mod) : Int :=
  if decide ((m.ex.length : Int) ≤ 65536) then (if decide ((m.ex.length : Int) + mn m.im.length ≤ 65536) then (if decide ((m.ex.length : Int) + mn m.im.length + mn m.co.length ≤ 65536) then (if decide ((m.ex.length : Int) + mn m.im.length + mn m.co.length + mn m.da.length ≤ 65536) then (m.ex.length : Int) + mn m.im.length + mn m.co.length + mn m.da.length + mn m.re.length
    else (m.ex.length : Int) + mn m.im.length + mn m.co.length + mn m.da.length) else (m.ex.length : Int) + mn m.im.length + mn m.co.length) else (m.ex.length : Int) + mn m.im.length) else m.ex.length
theorem mn_le (i : Nat) : 0 ≤ mn i ∧ mn i ≤ 65536 := by unfold mn; split <;> omega
theorem mn_small {i : Nat} (h : mn i ≤ 2000) : i ≤ 2000 := by unfold mn at h; split at h <;> omega
theorem size_small {m : Mod} (h : m.size ≤ 2000) : m.ex.length ≤ 2000 ∧ m.im.length ≤ 2000 ∧ m.co.length ≤ 2000 ∧ m.da.length ≤ 2000 ∧ m.re.length ≤ 2000 := by
  unfold Mod.size at h
  have a1 := mn_le m.im.length
  have a2 := mn_le m.co.length
  have a3 := mn_le m.da.length
  have a4 := mn_le m.re.length
  have b1 := @mn_small m.im.length
  have b2 := @mn_small m.co.length
  have b3 := @mn_small m.da.length
  have b4 := @mn_small m.re.length
  generalize mn m.im.length = x1 at *
  generalize mn m.co.length = x2 at *
  generalize mn m.da.length = x3 at *
  generalize mn m.re.length = x4 at *
  simp only [decide_eq_true_eq] at h
  split at h
  · split at h
    · split at h
      · split at h
        · exact ⟨by omega, b1 (by omega), b2 (by omega), b3 (by omega), b4 (by omega)⟩
        · omega
      · omega
    · omega
  · omega
theorem rsize_c (m : Mod) (H : Heap) : AC Tryd.prog 9 [m.tv] H (fun r H' => r = .s (.int .i64 m.size) ∧ H' = H) := by
  refine AC.body Tryd.func9 rfl rfl (n := 38) (res := [.tmp 2]) rfl rfl (by simp) ?_
  simp only [ent]
  have d1 : (if (65536 : Int) < (m.im.length : Int) then (65536 : Int) else (m.im.length : Int)) = mn m.im.length := rfl
  have d2 : (if (65536 : Int) < (m.co.length : Int) then (65536 : Int) else (m.co.length : Int)) = mn m.co.length := rfl
  have d3 : (if (65536 : Int) < (m.da.length : Int) then (65536 : Int) else (m.da.length : Int)) = mn m.da.length := rfl
  have d4 : (if (65536 : Int) < (m.re.length : Int) then (65536 : Int) else (m.re.length : Int)) = mn m.re.length := rfl
  have a1 := mn_le m.im.length
  have a2 := mn_le m.co.length
  have a3 := mn_le m.da.length
  have a4 := mn_le m.re.length
  have hsz : m.size = if decide ((m.ex.length : Int) ≤ 65536) then (if decide ((m.ex.length : Int) + mn m.im.length ≤ 65536) then (if decide ((m.ex.length : Int) + mn m.im.length + mn m.co.length ≤ 65536) then (if decide ((m.ex.length : Int) + mn m.im.length + mn m.co.length + mn m.da.length ≤ 65536) then (m.ex.length : Int) + mn m.im.length + mn m.co.length + mn m.da.length + mn m.re.length
    else (m.ex.length : Int) + mn m.im.length + mn m.co.length + mn m.da.length) else (m.ex.length : Int) + mn m.im.length + mn m.co.length) else (m.ex.length : Int) + mn m.im.length) else m.ex.length := rfl
  rw [hsz]
  clear hsz
  simp only [Mod.tv_def]
  generalize mn m.im.length = x1 at *
  generalize mn m.co.length = x2 at *
  generalize mn m.da.length = x3 at *
  generalize mn m.re.length = x4 at *
  have i1 : IntKind.i64.wrap (0 + 1) = 1 := rfl
  have i2 : IntKind.i64.wrap (1 + 1) = 2 := rfl
  have i3 : IntKind.i64.wrap (2 + 1) = 3 := rfl
  have i4 : IntKind.i64.wrap (3 + 1) = 4 := rfl
  have fl : ∀ a b c d : Int, [[TV.s (.int .i64 a)], [TV.s (.int .i64 b)], [TV.s (.int .i64 c)], [TV.s (.int .i64 d)]].flatten = [TV.s (.int .i64 a), TV.s (.int .i64 b), TV.s (.int .i64 c), TV.s (.int .i64 d)] := fun _ _ _ _ => rfl
  cases q1 : decide ((m.ex.length : Int) ≤ 65536) with
  | false =>
    replace a1 := later a1
    replace a2 := later a2
    replace a3 := later a3
    replace a4 := later a4
    rw [if_neg (by decide)]
    (repeat' (first | refine wk ?_ | refine wk2 ?_ ?_ | with_reducible refine wkF fun _ _ _ => ?_ | with_reducible refine ARun.loop ?_ | with_reducible refine ARun.inLoop ?_ | with_reducible intro _ | refine Doing.fresh (oc_build (n := 4) (es := [[.s (.int .i64 m.im.length)], [.s (.int .i64 m.co.length)], [.s (.int .i64 m.da.length)], [.s (.int .i64 m.re.length)]]) ap54 (fun _ h => by cases h; rfl) rfl rfl rfl (.cons rfl (.cons rfl (.cons rfl (.cons rfl .nil)))) (by decide) (by decide) (by decide)) fun _ _ _ => ?_ | refine Doing.eq (oc_min) ?_ | exact ag | fail))
    exact fin0
  | true =>
    rw [if_pos rfl]
    have hq := of_decide_eq_true q1
    have w1 : IntKind.i64.wrap ((m.ex.length : Int) + x1) = (m.ex.length : Int) + x1 := wi64 (by omega) (by omega)
    have w2 : IntKind.i64.wrap ((m.ex.length : Int) + x1 + x2) = (m.ex.length : Int) + x1 + x2 := wi64 (by omega) (by omega)
    have w3 : IntKind.i64.wrap ((m.ex.length : Int) + x1 + x2 + x3) = (m.ex.length : Int) + x1 + x2 + x3 := wi64 (by omega) (by omega)
    have w4 : IntKind.i64.wrap ((m.ex.length : Int) + x1 + x2 + x3 + x4) = (m.ex.length : Int) + x1 + x2 + x3 + x4 := wi64 (by omega) (by omega)
    replace hq := later hq
    replace a1 := later a1
    replace a2 := later a2
    replace a3 := later a3
    replace a4 := later a4
    cases q2 : decide ((m.ex.length : Int) + x1 ≤ 65536) with
    | false =>
      rw [if_neg (by decide)]
      (repeat' (first | refine wk ?_ | refine wk2 ?_ ?_ | with_reducible refine wkF fun _ _ _ => ?_ | with_reducible refine ARun.loop ?_ | with_reducible refine ARun.inLoop ?_ | with_reducible intro _ | refine Doing.fresh (oc_build (n := 4) (es := [[.s (.int .i64 m.im.length)], [.s (.int .i64 m.co.length)], [.s (.int .i64 m.da.length)], [.s (.int .i64 m.re.length)]]) ap54 (fun _ h => by cases h; rfl) rfl rfl rfl (.cons rfl (.cons rfl (.cons rfl (.cons rfl .nil)))) (by decide) (by decide) (by decide)) fun _ _ _ => ?_ | refine Doing.eq (oc_min) ?_ | exact ag | fail))
      exact fin0
    | true =>
      rw [if_pos rfl]
      cases q3 : decide ((m.ex.length : Int) + x1 + x2 ≤ 65536) with
      | false =>
        rw [if_neg (by decide)]
        (repeat' (first | refine wk ?_ | refine wk2 ?_ ?_ | with_reducible refine wkF fun _ _ _ => ?_ | with_reducible refine ARun.loop ?_ | with_reducible refine ARun.inLoop ?_ | with_reducible intro _ | refine Doing.fresh (oc_build (n := 4) (es := [[.s (.int .i64 m.im.length)], [.s (.int .i64 m.co.length)], [.s (.int .i64 m.da.length)], [.s (.int .i64 m.re.length)]]) ap54 (fun _ h => by cases h; rfl) rfl rfl rfl (.cons rfl (.cons rfl (.cons rfl (.cons rfl .nil)))) (by decide) (by decide) (by decide)) fun _ _ _ => ?_ | refine Doing.eq (oc_min) ?_ | exact ag | fail))
        exact fin0
      | true =>
        rw [if_pos rfl]
        cases q4 : decide ((m.ex.length : Int) + x1 + x2 + x3 ≤ 65536) with
        | false =>
          rw [if_neg (by decide)]
          (repeat' (first | refine wk ?_ | refine wk2 ?_ ?_ | with_reducible refine wkF fun _ _ _ => ?_ | with_reducible refine ARun.loop ?_ | with_reducible refine ARun.inLoop ?_ | with_reducible intro _ | refine Doing.fresh (oc_build (n := 4) (es := [[.s (.int .i64 m.im.length)], [.s (.int .i64 m.co.length)], [.s (.int .i64 m.da.length)], [.s (.int .i64 m.re.length)]]) ap54 (fun _ h => by cases h; rfl) rfl rfl rfl (.cons rfl (.cons rfl (.cons rfl (.cons rfl .nil)))) (by decide) (by decide) (by decide)) fun _ _ _ => ?_ | refine Doing.eq (oc_min) ?_ | exact ag | fail))
          exact fin0
        | true =>
          rw [if_pos rfl]
          (repeat' (first | refine wk ?_ | refine wk2 ?_ ?_ | with_reducible refine wkF fun _ _ _ => ?_ | with_reducible refine ARun.loop ?_ | with_reducible refine ARun.inLoop ?_ | with_reducible intro _ | refine Doing.fresh (oc_build (n := 4) (es := [[.s (.int .i64 m.im.length)], [.s (.int .i64 m.co.length)], [.s (.int .i64 m.da.length)], [.s (.int .i64 m.re.length)]]) ap54 (fun _ h => by cases h; rfl) rfl rfl rfl (.cons rfl (.cons rfl (.cons rfl (.cons rfl .nil)))) (by decide) (by decide) (by decide)) fun _ _ _ => ?_ | refine Doing.eq (oc_min) ?_ | exact ag | fail))
          exact fin0
end Go.Abs
/- Are two modules the same? -/
namespace Go.Abs
set_option linter.unusedSimpArgs false
set_option linter.unusedVariables false
set_option maxHeartbeats 4000000
open Go.Proofs Go.Nm Go.Wd
set_option linter.unusedVariables false
set_option maxRecDepth 8000
variable {H : Heap}
@[go_sem] theorem egR : Tryd.prog.eqGuardType Tryd.prog.depth 43 = false := by kernel_rfl
@[go_sem] theorem eqR (a b c a' b' c' : Int) : eqTV Tryd.prog 9 43 (.agg [.s (.int .u8 a), .s (.int .u16 b), .s (.int .u16 c)]) (.agg [.s (.int .u8 a'), .s (.int .u16 b'), .s (.int .u16 c')]) =
    some ((a == a') && ((b == b') && ((c == c') && true))) := by kernel_rfl
theorem eqR_iff (x y : Rlc) : (((x.k : Int) == (y.k : Int)) && (((x.a : Int) == (y.a : Int)) && (((x.w : Int) == (y.w : Int)) && true))) = decide (x = y) := by
  obtain ⟨a, b, c⟩ := x; obtain ⟨a', b', c'⟩ := y
  rw [Bool.eq_iff_iff]; simp; omega
theorem same_c (a b : Mod) (ha : a.ok) (H : Heap) : AC Tryd.prog 16 [a.tv, b.tv] H (fun r H' => r = .s (.bool (decide (a = b))) ∧ H' = H) := by
  refine AC.body Tryd.func16 rfl rfl (n := 70) (res := [.tmp 4]) rfl rfl (by simp) ?_
  simp only [ent]
  have E1 := fun H => sameT_c a.ex b.ex ha.lex H
  have E2 := fun H => sameT_c a.im b.im ha.lim H
  have E3 := fun H => sameW_c a.co b.co ha.lco H
  have E4 := fun H => sameW_c a.da b.da ha.lda H
  have hlre := ha.lre
  clear ha
  have hne : ∀ p : Prop, [Decidable p] → (a = b → p) → decide p = false → decide (a = b) = false := fun p _ h hp => by
    simp only [decide_eq_false_iff_not] at hp ⊢; exact fun e => hp (h e)
  have heq : a.nm = b.nm → a.ex = b.ex → a.im = b.im → a.co = b.co → a.da = b.da → a.re = b.re → a = b := by
    intro h1 h2 h3 h4 h5 h6; obtain ⟨_, _, _, _, _, _⟩ := a; obtain ⟨_, _, _, _, _, _⟩ := b; simp_all
  replace hne := later hne
  replace heq := later heq
  simp only [Mod.tv_def]
  have s0 := str_eq a.nm b.nm
  cases q0 : decide (a.nm = b.nm) with
  | false =>
    rw [hne.go _ (fun e => by rw [e]) q0]
    rw [q0] at s0
    clear q0
    (repeat' (first | refine wk ?_ | refine wk2 ?_ ?_ | with_reducible refine wkF fun _ _ _ => ?_ | with_reducible intro _ | refine Calling.eq (E1 _) ?_ | exact ag | fail))
    exact fin0
  | true => rw [q0] at s0; have h0 := later (of_decide_eq_true q0); clear q0; cases q1 : decide (a.ex = b.ex) with
   | false =>
    rw [hne.go _ (fun e => by rw [e]) q1]
    rw [q1] at E1
    clear q1
    (repeat' (first | refine wk ?_ | refine wk2 ?_ ?_ | with_reducible refine wkF fun _ _ _ => ?_ | with_reducible intro _ | refine Calling.eq (E1 _) ?_ | exact ag | fail))
    exact fin0
   | true => rw [q1] at E1; have h1 := later (of_decide_eq_true q1); clear q1; cases q2 : decide (a.im = b.im) with
    | false =>
     rw [hne.go _ (fun e => by rw [e]) q2]
     rw [q2] at E2
     clear q2
     (repeat' (first | refine wk ?_ | refine wk2 ?_ ?_ | with_reducible refine wkF fun _ _ _ => ?_ | with_reducible intro _ | refine Calling.eq (E1 _) ?_ | refine Calling.eq (E2 _) ?_ | exact ag | fail))
     exact fin0
    | true => rw [q2] at E2; have h2 := later (of_decide_eq_true q2); clear q2; cases q3 : decide (a.co = b.co) with
     | false =>
      rw [hne.go _ (fun e => by rw [e]) q3]
      rw [q3] at E3
      clear q3
      (repeat' (first | refine wk ?_ | refine wk2 ?_ ?_ | with_reducible refine wkF fun _ _ _ => ?_ | with_reducible intro _ | refine Calling.eq (E1 _) ?_ | refine Calling.eq (E2 _) ?_ | refine Calling.eq (E3 _) ?_ | exact ag | fail))
      exact fin0
     | true => rw [q3] at E3; have h3 := later (of_decide_eq_true q3); clear q3; cases q4 : decide (a.da = b.da) with
      | false =>
       rw [hne.go _ (fun e => by rw [e]) q4]
       rw [q4] at E4
       clear q4
       (repeat' (first | refine wk ?_ | refine wk2 ?_ ?_ | with_reducible refine wkF fun _ _ _ => ?_ | with_reducible intro _ | refine Calling.eq (E1 _) ?_ | refine Calling.eq (E2 _) ?_ | refine Calling.eq (E3 _) ?_ | refine Calling.eq (E4 _) ?_ | exact ag | fail))
       exact fin0
      | true =>
       rw [q4] at E4
       have h4 := later (of_decide_eq_true q4)
       clear q4
       cases q5 : (((a.re.length : Nat) : Int) != ((b.re.length : Nat) : Int)) with
       | true =>
        have hn : decide (a.re.length = b.re.length) = false := by simp at q5 ⊢; omega
        rw [hne.go _ (fun e => by rw [e]) hn]
        clear hn
        (repeat' (first | refine wk ?_ | refine wk2 ?_ ?_ | with_reducible refine wkF fun _ _ _ => ?_ | with_reducible intro _ | refine Calling.eq (E1 _) ?_ | refine Calling.eq (E2 _) ?_ | refine Calling.eq (E3 _) ?_ | refine Calling.eq (E4 _) ?_ | exact ag | fail))
        exact fin0
       | false =>
        have hl : a.re.length = b.re.length := by simp at q5; omega
        replace hl := later hl
        (repeat' (first | refine wk ?_ | refine wk2 ?_ ?_ | with_reducible refine wkF fun _ _ _ => ?_ | with_reducible intro _ | exact ag | fail))
        rename_i v hv hvn v2 hv2 hvn2
        (repeat' (first | refine wk ?_ | refine wk2 ?_ ?_ | with_reducible refine wkF fun _ _ _ => ?_ | with_reducible intro _ | refine Calling.eq (E1 _) ?_ | refine Calling.eq (E2 _) ?_ | refine Calling.eq (E3 _) ?_ | refine Calling.eq (E4 _) ?_ | exact ag | fail))
        clear E1 E2 E3 E4 s0 q5
        refine ARun.rounds (fun i : Nat => ⟨[(2, .s (.pointer (some ⟨v, 0, none⟩))), (3, .s (.pointer (some ⟨v2, 0, none⟩))), (5, .s (.int .i64 i))], upd (upd H v (.cells [.s (.string a.nm), .vs 1 (a.ex.map s1), .vs 1 (a.im.map s1), .vs 1 (a.co.map u1), .vs 1 (a.da.map u1), .vs 3 (a.re.map relE)])) v2 (.cells [.s (.string b.nm), .vs 1 (b.ex.map s1), .vs 1 (b.im.map s1), .vs 1 (b.co.map u1), .vs 1 (b.da.map u1), .vs 3 (b.re.map relE)])⟩)
          (fun i => a.re.length - i) (fun i => i ≤ a.re.length ∧ ∀ j, j < i → a.re[j]? = b.re[j]?) ?_ 0 ⟨by omega, fun j h => by omega⟩ ?_
        · rintro i ⟨hi, hno⟩ next
          replace hno := later hno
          by_cases hlt : i < a.re.length
          · have h1' : (i : Int) < a.re.length := by omega
            have h1'' : (i : Int) < b.re.length := by have := hl.go; omega
            have h2' : (0 : Int) ≤ i := by omega
            obtain ⟨x, hx⟩ := at_ hlt
            obtain ⟨y, hy⟩ := at_ (l := b.re) (i := i) (by have := hl.go; omega)
            have hx1 := vget relE hx
            have hy1 := vget relE hy
            have hw := w64s (i := i) (by omega)
            simp only [relE_def] at hx1 hy1
            have hq := eqR_iff x y
            replace hx := later hx
            replace hy := later hy
            cases q : decide (x = y) with
            | true =>
              rw [q] at hq
              have hxy := later (of_decide_eq_true q)
              have nx := next.go (i + 1) ⟨by omega, fun j hj => by
                rcases Nat.lt_or_ge j i with h | h
                · exact hno.go j h
                · rw [show j = i by omega, hx.go, hy.go, hxy.go]⟩ (by omega)
              clear next q
              (repeat' (first | refine wk ?_ | refine wk2 ?_ ?_ | with_reducible refine wkF fun _ _ _ => ?_ | with_reducible intro _ | exact ag | fail))
              refine ARun.drawB mixed [([], [0, 1, 2, 3, 4, 5, 6, 7, 8, 9, 10], none)] (by kernel_rfl) (by rfl) ?_
              (repeat' (first | refine wk ?_ | refine wk2 ?_ ?_ | with_reducible refine wkF fun _ _ _ => ?_ | with_reducible intro _ | exact ag | fail))
              exact ARun.weaken nx (leK (Sub.refl _))
            | false =>
              rw [q] at hq
              rw [hne.go (x = y) (fun e => by have h3 := hx.go; rw [e, hy.go] at h3; cases h3; rfl) q]
              clear next q
              (repeat' (first | refine wk ?_ | refine wk2 ?_ ?_ | with_reducible refine wkF fun _ _ _ => ?_ | with_reducible intro _ | exact ag | fail))
              refine ARun.drawB mixed [([], [0, 1, 2, 3, 4, 5, 6, 7, 8, 9, 10], none)] (by kernel_rfl) (by rfl) ?_
              (repeat' (first | refine wk ?_ | refine wk2 ?_ ?_ | with_reducible refine wkF fun _ _ _ => ?_ | with_reducible intro _ | exact ag | fail))
              exact fin0
          · have h1' : decide ((i : Int) < a.re.length) = false := by simp; omega
            have he : decide (a = b) = true := by
              simp only [decide_eq_true_eq]
              refine heq.go h0.go h1.go h2.go h3.go h4.go (List.ext_getElem? fun j => ?_)
              rcases Nat.lt_or_ge j i with h | h
              · exact hno.go j h
              · have := hl.go; rw [List.getElem?_eq_none (by omega), List.getElem?_eq_none (by omega)]
            rw [he]
            clear he next
            (repeat' (first | refine wk ?_ | refine wk2 ?_ ?_ | with_reducible refine wkF fun _ _ _ => ?_ | with_reducible intro _ | exact ag | fail))
            exact fin0
        · exact leK (Sub.refl _)
end Go.Abs
/- A module, copied; what is told of a module whose rows are one's own. -/
namespace Go.Abs
set_option linter.unusedSimpArgs false
set_option linter.unusedVariables false
set_option maxHeartbeats 4000000
open Go.Proofs Go.Nm Go.Wd
set_option linter.unusedVariables false
set_option maxRecDepth 8000
variable {H : Heap}
theorem each_u1 (l : List Nat) : Each 1 (l.map u1) := fun e he => by obtain ⟨x, _, rfl⟩ := List.mem_map.1 he; rfl
theorem each_relE (l : List Rlc) : Each 3 (l.map relE) := fun e he => by obtain ⟨x, _, rfl⟩ := List.mem_map.1 he; rfl
theorem one_u1 (l : List Nat) : (l.map u1).flatten.all oneT = true := by
  induction l with
  | nil => rfl
  | cons x l ih => rw [List.map_cons, List.flatten_cons, List.all_append, ih]; rfl
theorem one_relE (l : List Rlc) : (l.map relE).flatten.all oneT = true := by
  induction l with
  | nil => rfl
  | cons x l ih => rw [List.map_cons, List.flatten_cons, List.all_append, ih]; rfl
/-- A module's rows, in blocks. -/
def Mod.rows (m : Mod) (b1 b2 b3 b4 b5 : Nat) : List Row := [(b1, 1, m.ex.map s1), (b2, 1, m.im.map s1), (b3, 1, m.co.map u1), (b4, 1, m.da.map u1), (b5, 3, m.re.map relE)]
theorem Mod.rows_def (m : Mod) (b1 b2 b3 b4 b5 : Nat) : m.rows b1 b2 b3 b4 b5 = [(b1, 1, m.ex.map s1), (b2, 1, m.im.map s1), (b3, 1, m.co.map u1), (b4, 1, m.da.map u1), (b5, 3, m.re.map relE)] := rfl
def Mod.own (m : Mod) (b1 b2 b3 b4 b5 : Nat) : TV := .agg [.s (.string m.nm), ownT b1 1 (m.ex.map s1), ownT b2 1 (m.im.map s1), ownT b3 1 (m.co.map u1), ownT b4 1 (m.da.map u1), ownT b5 3 (m.re.map relE)]
theorem Mod.own_def (m : Mod) (b1 b2 b3 b4 b5 : Nat) : m.own b1 b2 b3 b4 b5 = .agg [.s (.string m.nm), ownT b1 1 (m.ex.map s1), ownT b2 1 (m.im.map s1), ownT b3 1 (m.co.map u1), ownT b4 1 (m.da.map u1), ownT b5 3 (m.re.map relE)] := rfl
/-- No list is long. -/
structure Mod.little (m : Mod) : Prop where
  ex : m.ex.length ≤ 2000
  im : m.im.length ≤ 2000
  co : m.co.length ≤ 2000
  da : m.da.length ≤ 2000
  re : m.re.length ≤ 2000
theorem Doing.ownK {P : Program} {o : Oper} {vs : List TV} {Z : TV → Heap → Prop} {k : Nat} {L : List (List TV)} {H H0 : Heap} {rows : List Row} (hO : Owns H0 H rows) (v t : Nat) {cv ct : Root} (hv : H v = some cv) (ht : H t = some ct)
    (h : OC P o vs H (fun r H' => ∃ b, H b = none ∧ r = ownT b k L ∧ H' = ownH H b L)) (z : ∀ b K', Owns H0 K' (rows ++ [(b, k, L)]) → b ≠ t → K' v = some cv → K' t = some ct → Z (ownT b k L) K') : Doing P o vs H Z :=
  Doing.by h fun r H' ⟨b, hb, h1, h2⟩ => by
    rw [h1, h2]
    have nv := none_at hb hv
    have nt := none_at hb ht
    exact z b _ (hO.snoc hb) (fun e => nt e.symm) (by rw [ownH_ne (eq_false nv)]; exact hv) (by rw [ownH_ne (eq_false nt)]; exact ht)
set_option maxHeartbeats 4000000 in
theorem copy_c (m : Mod) (hl : m.little) (H : Heap) : AC Tryd.prog 11 [m.tv] H (fun r K => ∃ b1 b2 b3 b4 b5, r = m.own b1 b2 b3 b4 b5 ∧ Owns H K (m.rows b1 b2 b3 b4 b5)) := by
  refine AC.body Tryd.func11 rfl rfl (n := 26) (res := [.cell 2 26]) rfl rfl (by simp) ?_
  simp only [ent]
  simp only [Mod.tv_def]
  obtain ⟨l1, l2, l3, l4, l5⟩ := hl
  replace l1 : (m.ex.map s1).length ≤ 2000 := by simpa using l1
  replace l2 : (m.im.map s1).length ≤ 2000 := by simpa using l2
  replace l3 : (m.co.map u1).length ≤ 2000 := by simpa using l3
  replace l4 : (m.da.map u1).length ≤ 2000 := by simpa using l4
  replace l5 : (m.re.map relE).length ≤ 2000 := by simpa using l5
  have A1 := each_s1 m.ex
  have A2 := each_s1 m.im
  have A3 := each_u1 m.co
  have A4 := each_u1 m.da
  have A5 := each_relE m.re
  have B1 := later (one_s1 m.ex)
  have B2 := later (one_s1 m.im)
  have B3 := later (one_u1 m.co)
  have B4 := later (one_u1 m.da)
  have B5 := later (one_relE m.re)
  replace l1 := later l1
  replace l2 := later l2
  replace l3 := later l3
  replace l4 := later l4
  replace l5 := later l5
  rw [show (fun r K => ∃ b1 b2 b3 b4 b5, r = m.own b1 b2 b3 b4 b5 ∧ Owns H K (m.rows b1 b2 b3 b4 b5)) = fun r K => ∃ b1 b2 b3 b4 b5, r = .agg [.s (.string m.nm), ownT b1 1 (m.ex.map s1), ownT b2 1 (m.im.map s1), ownT b3 1 (m.co.map u1), ownT b4 1 (m.da.map u1), ownT b5 3 (m.re.map relE)] ∧ Owns H K [(b1, 1, m.ex.map s1), (b2, 1, m.im.map s1), (b3, 1, m.co.map u1), (b4, 1, m.da.map u1), (b5, 3, m.re.map relE)] from rfl]
  generalize m.ex.map s1 = L1 at *
  generalize m.im.map s1 = L2 at *
  generalize m.co.map u1 = L3 at *
  generalize m.da.map u1 = L4 at *
  generalize m.re.map relE = L5 at *
  replace A1 := later A1
  replace A2 := later A2
  replace A3 := later A3
  replace A4 := later A4
  replace A5 := later A5
  (repeat' (first | refine wk ?_ | refine wk2 ?_ ?_ | with_reducible refine wkF fun _ _ _ => ?_ | with_reducible intro _ | exact ag | fail))
  rename_i v hv hvn t ht htn
  have O0 : Owns H (upd (upd H v (.cells [.s (.string m.nm), .vs 1 L1, .vs 1 L2, .vs 1 L3, .vs 1 L4, .vs 3 L5])) t (.cells [.s (.string ByteArray.empty), .nils, .nils, .nils, .nils, .nils])) [] := Owns.nil (by exact sb)
  replace O0 := later O0
  refine ARun.drawB mixed [([], [0, 1, 2, 3, 4, 6, 7, 8, 10, 11, 12, 14, 15, 16, 18, 19, 20], some 5), ([0, 1, 3, 6, 7, 8, 10, 11, 12, 14, 15, 16, 18, 19, 20], [], some 9), ([0, 1, 2, 3, 4, 7, 10, 11, 12, 14, 15, 16, 18, 19, 20], [], some 13), ([0, 1, 2, 3, 4, 6, 7, 8, 11, 14, 15, 16, 18, 19, 20], [], some 17), ([0, 1, 2, 3, 4, 6, 7, 8, 10, 11, 12, 15, 18, 19, 20], [], some 21), ([0, 1, 2, 3, 4, 6, 7, 8, 10, 11, 12, 14, 15, 16, 19], [22], some 23), ([], [], none)] (by kernel_rfl) (by rfl) ?_
  simp only [Later] at O0
  have hv0 : (upd (upd H v (.cells [.s (.string m.nm), .vs 1 L1, .vs 1 L2, .vs 1 L3, .vs 1 L4, .vs 3 L5])) t (.cells [.s (.string ByteArray.empty), .nils, .nils, .nils, .nils, .nils])) v = some (.cells [.s (.string m.nm), .vs 1 L1, .vs 1 L2, .vs 1 L3, .vs 1 L4, .vs 3 L5]) := ag
  have ht0 : (upd (upd H v (.cells [.s (.string m.nm), .vs 1 L1, .vs 1 L2, .vs 1 L3, .vs 1 L4, .vs 3 L5])) t (.cells [.s (.string ByteArray.empty), .nils, .nils, .nils, .nils, .nils])) t = some (.cells [.s (.string ByteArray.empty), .nils, .nils, .nils, .nils, .nils]) := ag
  (repeat' (first | refine wk ?_ | refine wk2 ?_ ?_ | with_reducible refine wkF fun _ _ _ => ?_ | with_reducible intro _ | exact ag | fail))
  refine Doing.ownK O0 v t hv0 ht0 (oc_append_own0 ap22 us22 A1.go B1.go (by have := l1.go; omega) (by have := l1.go; omega)) fun b1 K1 O1 n1 hv1 ht1 => ?_
  have htH : H t = none := by rw [upd_eq] at ht; split at ht; cases ht; exact ht
  clear hvn htn hv ht
  (repeat' (first | refine wk ?_ | refine wk2 ?_ ?_ | with_reducible refine wkF fun _ _ _ => ?_ | with_reducible intro _ | exact ag | fail))
  refine Doing.ownK O1 v t hv1 ht1 (oc_append_own0 ap22 us22 A2.go B2.go (by have := l2.go; omega) (by have := l2.go; omega)) fun b2 K2 O2 n2 hv2 ht2 => ?_
  clear hv1 ht1
  (repeat' (first | refine wk ?_ | refine wk2 ?_ ?_ | with_reducible refine wkF fun _ _ _ => ?_ | with_reducible intro _ | exact ag | fail))
  refine Doing.ownK O2 v t hv2 ht2 (oc_append_own0 ap23 us23 A3.go B3.go (by have := l3.go; omega) (by have := l3.go; omega)) fun b3 K3 O3 n3 hv3 ht3 => ?_
  clear hv2 ht2
  (repeat' (first | refine wk ?_ | refine wk2 ?_ ?_ | with_reducible refine wkF fun _ _ _ => ?_ | with_reducible intro _ | exact ag | fail))
  refine Doing.ownK O3 v t hv3 ht3 (oc_append_own0 ap23 us23 A4.go B4.go (by have := l4.go; omega) (by have := l4.go; omega)) fun b4 K4 O4 n4 hv4 ht4 => ?_
  clear hv3 ht3
  (repeat' (first | refine wk ?_ | refine wk2 ?_ ?_ | with_reducible refine wkF fun _ _ _ => ?_ | with_reducible intro _ | exact ag | fail))
  refine Doing.ownK O4 v t hv4 ht4 (oc_append_own0 ap24 us24 A5.go B5.go (by have := l5.go; omega) (by have := l5.go; omega)) fun b5 K5 O5 n5 hv5 ht5 => ?_
  clear hv4 ht4
  (repeat' (first | refine wk ?_ | refine wk2 ?_ ?_ | with_reducible refine wkF fun _ _ _ => ?_ | with_reducible intro _ | exact ag | fail))
  refine Fin.plain agr (Sub.refl _) ⟨b1, b2, b3, b4, b5, rfl, ?_⟩
  refine Owns.over (by simpa using O5) htH ?_
  simp only [List.forall_mem_cons, List.not_mem_nil, false_implies, implies_true, and_true]
  exact ⟨.inr n1, .inr n2, .inr n3, .inr n4, .inr n5⟩
end Go.Abs
/- What is told of modules whose rows are one's own; what every right program tells of some modules. -/
namespace Go.Abs
set_option linter.unusedSimpArgs false
set_option linter.unusedVariables false
set_option maxHeartbeats 4000000
open Go.Proofs Go.Nm Go.Wd
set_option linter.unusedVariables false
set_option maxRecDepth 8000
variable {H : Heap}
theorem flatG {G : Heap} (g : GH G) : Flat G := fun b r h => by
  obtain ⟨o, ho⟩ := g.exact b (by rw [h]; simp)
  rw [ho] at h; cases h; rfl
theorem mod_conv {G K : Heap} {m : Mod} {b1 b2 b3 b4 b5 : Nat} (O : Owns G K (m.rows b1 b2 b3 b4 b5)) : Conv K G (m.own b1 b2 b3 b4 b5) m.tv := by
  have hf := O.free
  have hh := O.held
  simp only [Mod.rows_def, List.forall_mem_cons, List.not_mem_nil, false_implies, implies_true, and_true] at hf hh
  obtain ⟨f1, f2, f3, f4, f5⟩ := hf
  obtain ⟨h1, h2, h3, h4, h5⟩ := hh
  rw [Mod.own_def, Mod.tv_def]
  exact Conv.agg (.cons (Conv.refl O.sub _) (.cons (conv_own O.sub h1 f1 (each_s1 _)) (.cons (conv_own O.sub h2 f2 (each_s1 _)) (.cons (conv_own O.sub h3 f3 (each_u1 _)) (.cons (conv_own O.sub h4 f4 (each_u1 _)) (.cons (conv_own O.sub h5 f5 (each_relE _)) .nil))))))
theorem modO_c {G K : Heap} (g : GH G) {m : Mod} (hm : m.ok) {b1 b2 b3 b4 b5 : Nat} (O : Owns G K (m.rows b1 b2 b3 b4 b5)) : AC Tryd.prog 12 [m.own b1 b2 b3 b4 b5] K (fun r H' => r = .tup [.s (.int .u8 m.flt.1), .s (.int .i64 m.flt.2)] ∧ H' = K) :=
  AC.frame (module_c g (Sub.refl _) m hm) rfl (flatG g) O.sub (.cons (mod_conv O) .nil)
theorem chkO_c {G K : Heap} (g : GH G) {m : Mod} (hm : m.ok) {b1 b2 b3 b4 b5 : Nat} (O : Owns G K (m.rows b1 b2 b3 b4 b5)) : AC Tryd.prog 14 [m.own b1 b2 b3 b4 b5] K (fun r H' => r = .s (.int .i64 m.chk) ∧ H' = K) :=
  AC.frame (vCheck_c g (Sub.refl _) m hm) rfl (flatG g) O.sub (.cons (mod_conv O) .nil)
theorem sameO_c {G K : Heap} (g : GH G) {m n : Mod} (hm : m.ok) {b1 b2 b3 b4 b5 : Nat} (O : Owns G K (m.rows b1 b2 b3 b4 b5)) : AC Tryd.prog 16 [m.own b1 b2 b3 b4 b5, n.tv] K (fun r H' => r = .s (.bool (decide (m = n))) ∧ H' = K) :=
  AC.frame (same_c m n hm G) rfl (flatG g) O.sub (.cons (mod_conv O) (ConvL.refl O.sub _))
/-- A module of nothing but code. -/
def bare (s : ByteArray) (co : List Nat) : Mod := ⟨s, [], [], co, [], []⟩
theorem bare_ok {s : ByteArray} {co : List Nat} (hs : s.size ≤ 100) (hc : co.all (· < 2 ^ 32) = true) (hl : co.length ≤ 100) : (bare s co).ok where
  co := fun x h => by simpa using List.all_eq_true.1 hc x h
  da := fun s h => (List.not_mem_nil h).elim
  re := fun s h => (List.not_mem_nil h).elim
  lex := (by decide : (0 : Nat) < 4611686018427387904)
  lim := (by decide : (0 : Nat) < 4611686018427387904)
  lco := Nat.lt_of_le_of_lt hl (by decide)
  lda := (by decide : (0 : Nat) < 4611686018427387904)
  lre := (by decide : (0 : Nat) < 4611686018427387904)
theorem bare_tv (s : ByteArray) (co : List Nat) : (bare s co).tv = .agg [.s (.string s), .vs 1 [], .vs 1 [], .vs 1 (co.map u1), .vs 1 [], .vs 3 []] := rfl
theorem bare_c {G : Heap} (g : GH G) (hs : Sub G H) {s : ByteArray} {co : List Nat} (h1 : s.size ≤ 100) (h2 : co.all (· < 2 ^ 32) = true) (h3 : co.length ≤ 100) {b : Nat} (hb : H b = some (.cells (co.map u1).flatten)) (hn : G b = none) :
    AC Tryd.prog 12 [.agg [.s (.string s), .nils, .nils, .rs b 0 co.length 1, .nils, .nils]] H (fun r H' => r = .tup [.s (.int .u8 (bare s co).flt.1), .s (.int .i64 (bare s co).flt.2)] ∧ H' = H) := by
  have h := module_c g (Sub.refl _) (bare s co) (bare_ok h1 h2 h3)
  rw [bare_tv] at h
  refine AC.frame h rfl (flatG g) hs (.cons (Conv.agg (.cons (Conv.refl hs _) (.cons conv_nils (.cons conv_nils (.cons ?_ (.cons conv_nils (.cons conv_nils .nil))))))) .nil)
  have := conv_rs (k := 1) hs hb hn (each_u1 co)
  rw [List.length_map] at this
  exact this
theorem bare0_c {G : Heap} (g : GH G) (hs : Sub G H) {s : ByteArray} (h1 : s.size ≤ 100) :
    AC Tryd.prog 12 [.agg [.s (.string s), .nils, .nils, .nils, .nils, .nils]] H (fun r H' => r = .tup [.s (.int .u8 (bare s []).flt.1), .s (.int .i64 (bare s []).flt.2)] ∧ H' = H) := by
  have h := module_c g (Sub.refl _) (bare s []) (bare_ok h1 rfl (by decide))
  rw [bare_tv] at h
  exact AC.frame h rfl (flatG g) hs (.cons (Conv.agg (.cons (Conv.refl hs _) (.cons conv_nils (.cons conv_nils (.cons conv_nils (.cons conv_nils (.cons conv_nils .nil))))))) .nil)
theorem bareC_c {G : Heap} (g : GH G) (hs : Sub G H) {s : ByteArray} (h1 : s.size ≤ 100) :
    AC Tryd.prog 14 [.agg [.s (.string s), .nils, .nils, .nils, .nils, .nils]] H (fun r H' => r = .s (.int .i64 (bare s []).chk) ∧ H' = H) := by
  have h := vCheck_c g (Sub.refl _) (bare s []) (bare_ok h1 rfl (by decide))
  rw [bare_tv] at h
  exact AC.frame h rfl (flatG g) hs (.cons (Conv.agg (.cons (Conv.refl hs _) (.cons conv_nils (.cons conv_nils (.cons conv_nils (.cons conv_nils (.cons conv_nils .nil))))))) .nil)
theorem fA : (bare ⟨#[109]⟩ [0]).flt = (0, 0) := by kernel_rfl
theorem fB : (bare ⟨#[109]⟩ []).flt = (4, 0) := by kernel_rfl
theorem fC : (bare ⟨#[109]⟩ [0, 2281701381]).flt = (9, 1) := by kernel_rfl
theorem fZ : (bare ⟨#[]⟩ []).chk = 20 := by kernel_rfl
theorem awA {G : Heap} (g : GH G) (hs : Sub G H) {b : Nat} (hb : H b = some (.cells [.s (.int .u32 0)])) (hn : G b = none) : AC Tryd.prog 12 [.agg [.s (.string ⟨#[109]⟩), .nils, .nils, .rs b 0 1 1, .nils, .nils]] H (fun r H' => r = .tup [.s (.int .u8 0), .s (.int .i64 0)] ∧ H' = H) := by
  have h := bare_c (s := ⟨#[109]⟩) (co := [0]) g hs (by decide) rfl (by decide) hb hn
  rw [fA] at h; exact h
theorem awC {G : Heap} (g : GH G) (hs : Sub G H) {b : Nat} (hb : H b = some (.cells [.s (.int .u32 0), .s (.int .u32 2281701381)])) (hn : G b = none) : AC Tryd.prog 12 [.agg [.s (.string ⟨#[109]⟩), .nils, .nils, .rs b 0 2 1, .nils, .nils]] H (fun r H' => r = .tup [.s (.int .u8 9), .s (.int .i64 1)] ∧ H' = H) := by
  have h := bare_c (s := ⟨#[109]⟩) (co := [0, 2281701381]) g hs (by decide) rfl (by decide) hb hn
  rw [fC] at h; exact h
theorem awB {G : Heap} (g : GH G) (hs : Sub G H) : AC Tryd.prog 12 [.agg [.s (.string ⟨#[109]⟩), .nils, .nils, .nils, .nils, .nils]] H (fun r H' => r = .tup [.s (.int .u8 4), .s (.int .i64 0)] ∧ H' = H) := by
  have h := bare0_c (s := ⟨#[109]⟩) g hs (by decide)
  rw [fB] at h; exact h
theorem awZ {G : Heap} (g : GH G) (hs : Sub G H) : AC Tryd.prog 14 [.agg [.s (.string ByteArray.empty), .nils, .nils, .nils, .nils, .nils]] H (fun r H' => r = .s (.int .i64 20) ∧ H' = H) := by
  have h := bareC_c (s := ⟨#[]⟩) g hs (by decide)
  rw [fZ] at h; exact h
theorem awake_c {G : Heap} (g : GH G) (hs : Sub G H) : AC Tryd.prog 10 [] H (fun r H' => r = .s (.bool true) ∧ H' = H) := by
  refine AC.body Tryd.func10 rfl rfl (n := 53) (res := [.tmp 0]) rfl rfl (by simp) ?_
  simp only [ent]
  have W1 := later fun (K : Heap) (hs : Sub G K) (b : Nat) hb hn => awA g hs (b := b) hb hn
  have W2 := later fun (K : Heap) (hs : Sub G K) => awB g hs
  have W3 := later fun (K : Heap) (hs : Sub G K) (b : Nat) hb hn => awC g hs (b := b) hb hn
  have W4 := later fun (K : Heap) (hs : Sub G K) => awZ g hs
  (repeat' (first | refine wk ?_ | refine wk2 ?_ ?_ | with_reducible refine wkF fun _ _ _ => ?_ | with_reducible intro _ | refine Doing.fresh (oc_build1 ap23 (fun _ h => by cases h; rfl) rfl rfl (by decide) (by decide)) fun _ _ _ => ?_ | exact ag | fail))
  rename_i b hb hbn
  have s1 : ∀ r, Sub G (upd H b r) := fun r => Sub.upd hs (hs.none hb)
  have n1 : G b = none := hs.none hb
  (repeat' (first | refine wk ?_ | refine wk2 ?_ ?_ | with_reducible refine wkF fun _ _ _ => ?_ | with_reducible intro _ | refine Calling.eq (W1.go _ (s1 _) _ (ag) n1) ?_ | refine Calling.eq (W2.go _ (s1 _)) ?_ | refine Doing.fresh (oc_build (n := 2) (es := [[.s (.int .u32 0)], [.s (.int .u32 2281701381)]]) ap23 (fun _ h => by cases h; rfl) rfl rfl rfl (.cons rfl (.cons rfl .nil)) (by decide) (by decide) (by decide)) fun _ _ _ => ?_ | exact ag | fail))
  rename_i b2 hb2 hbn2
  have s2 : ∀ r, Sub G (upd (upd H b (.cells [.s (.int .u32 0)])) b2 r) := fun r => Sub.upd (s1 _) ((s1 _).none hb2)
  have n2 : G b2 = none := (s1 _).none hb2
  (repeat' (first | refine wk ?_ | refine wk2 ?_ ?_ | with_reducible refine wkF fun _ _ _ => ?_ | with_reducible intro _ | refine Calling.eq (W3.go _ (s2 _) _ (upd_self _ _ _) n2) ?_ | refine Calling.eq (W4.go _ (s2 _)) ?_ | exact ag | fail))
  exact fin0
end Go.Abs
/- The laws of modules that are looked at. -/
namespace Go.Abs
set_option linter.unusedSimpArgs false
set_option linter.unusedVariables false
set_option maxHeartbeats 4000000
open Go.Proofs Go.Nm Go.Wd
set_option linter.unusedVariables false
set_option maxRecDepth 8000
variable {H : Heap}
theorem flt_range (m : Mod) : 0 ≤ m.flt.1 ∧ m.flt.1 ≤ 9 := by
  unfold Mod.flt
  split
  · exact ⟨by simp, by simp⟩
  · split
    · unfold Mod.txt; (repeat' split) <;> exact ⟨by simp, by simp⟩
    · split
      · unfold Mod.wrd; (repeat' split) <;> exact ⟨by simp, by simp⟩
      · unfold Mod.rel; (repeat' split) <;> exact ⟨by simp, by simp⟩
theorem pat_self (m : Mod) : m.pat m = 0 := if_pos rfl
theorem pat_comm (m n : Mod) : n.pat m = m.pat n := by
  unfold Mod.pat
  by_cases h : m.ex = n.ex
  · rw [if_pos h, if_pos h.symm]
  · rw [if_neg h, if_neg (fun e => h e.symm)]
theorem little_of {m : Mod} (h : decide ((2000 : Int) < m.size) = false) : m.little := by
  have h := of_decide_eq_false h
  obtain ⟨h1, h2, h3, h4, h5⟩ := size_small (m := m) (by omega)
  exact ⟨h1, h2, h3, h4, h5⟩
/-- Numbers in their ranges. -/
structure Mod.num (m : Mod) : Prop where
  co : ∀ x ∈ m.co, x < 2 ^ 32
  da : ∀ x ∈ m.da, x < 2 ^ 32
  re : ∀ r ∈ m.re, r.k < 256 ∧ r.a < 65536 ∧ r.w < 65536
theorem ok_of {m : Mod} (h : m.num) (l : m.little) : m.ok where
  co := h.co
  da := h.da
  re := h.re
  lex := Nat.lt_of_le_of_lt l.ex (by decide)
  lim := Nat.lt_of_le_of_lt l.im (by decide)
  lco := Nat.lt_of_le_of_lt l.co (by decide)
  lda := Nat.lt_of_le_of_lt l.da (by decide)
  lre := Nat.lt_of_le_of_lt l.re (by decide)
theorem validPatches_c {G : Heap} (g : GH G) (hs : Sub G H) (a b : Mod) (ha : a.num) (hb : b.num) : AC Tryd.prog 8 [a.tv, b.tv] H (fun r H' => r = .s (.bool true) ∧ H' = H) := by
  refine AC.body Tryd.func8 rfl rfl (n := 39) (res := [.tmp 4]) rfl rfl (by simp) ?_
  simp only [ent]
  have S1 := fun H => rsize_c a H
  have S2 := fun H => rsize_c b H
  have ka := later fun (h : decide ((2000 : Int) < a.size) = false) => ok_of ha (little_of h)
  have kb := later fun (h : decide ((2000 : Int) < b.size) = false) => ok_of hb (little_of h)
  have P1 := later fun (ha : a.ok) H => patch_c a b ha H
  have P2 := fun (ha : a.ok) H => patch_c a a ha H
  have P3 := fun (hb : b.ok) H => patch_c b a hb H
  have R1 := later fun (ha : a.ok) H => rpatch_c a b ha H
  rw [pat_self] at P2
  rw [pat_comm] at P3
  replace P2 := later P2
  replace P3 := later P3
  have W := later fun (K : Heap) (hs : Sub G K) => awake_c g hs
  clear ha hb
  simp only [Mod.tv_def] at S1 S2 P1 P2 P3 R1 ⊢
  generalize a.pat b = p at *
  generalize a.size = s1 at *
  generalize b.size = s2 at *
  (repeat' (first | refine wk ?_ | refine wk2 ?_ ?_ | with_reducible refine wkF fun _ _ _ => ?_ | with_reducible intro _ | exact ag | fail))
  rename_i v hv hvn v2 hv2 hvn2
  have hsv : ∀ r r2, Sub G (upd (upd H v r) v2 r2) := fun r r2 => Sub.upd (Sub.upd hs (hs.none hv)) ((Sub.upd (r := r) hs (hs.none hv)).none (by rw [upd_eq] at hv2 ⊢; split at hv2; cases hv2; rw [if_neg (by assumption)]; exact hv2))
  cases q1 : decide ((2000 : Int) < s1) with
  | true =>
    (repeat' (first | refine wk ?_ | refine wk2 ?_ ?_ | with_reducible refine wkF fun _ _ _ => ?_ | with_reducible intro _ | refine Calling.eq (S1 _) ?_ | refine Calling.eq (S2 _) ?_ | refine Calling.eq (W.go _ (hsv _ _)) ?_ | exact ag | fail))
    exact fin0
  | false => cases q2 : decide ((2000 : Int) < s2) with
   | true =>
    (repeat' (first | refine wk ?_ | refine wk2 ?_ ?_ | with_reducible refine wkF fun _ _ _ => ?_ | with_reducible intro _ | refine Calling.eq (S1 _) ?_ | refine Calling.eq (S2 _) ?_ | refine Calling.eq (W.go _ (hsv _ _)) ?_ | exact ag | fail))
    exact fin0
   | false =>
    replace P1 := P1.go (ka.go q1)
    replace P2 := P2.go (ka.go q1)
    replace P3 := P3.go (kb.go q2)
    replace R1 := R1.go (ka.go q1)
    clear ka kb
    (repeat' (first | refine wk ?_ | refine wk2 ?_ ?_ | with_reducible refine wkF fun _ _ _ => ?_ | with_reducible intro _ | refine Calling.eq (S1 _) ?_ | refine Calling.eq (S2 _) ?_ | refine Calling.eq (W.go _ (hsv _ _)) ?_ | exact ag | fail))
    refine ARun.drawB mixed [([], [0, 1, 3, 4], some 2), ([3, 4], [], some 5), ([0, 1], [6, 7, 8, 9], some 10), ([0, 1, 3, 4, 6], [11, 12, 13, 14, 15, 17, 18], some 16), ([0, 1, 3, 4, 6, 7, 8, 9, 11, 12, 17, 18], [], some 19), ([0, 1, 3, 4, 6, 7, 8, 9, 11, 12, 14, 15], [20, 21, 22], some 23), ([0, 1, 3, 4, 6, 7, 8, 9, 11, 12, 13, 14, 15, 17, 18, 20, 21], [24, 25], none)] (by kernel_rfl) (by rfl) ?_
    (repeat' (first | refine wk ?_ | refine wk2 ?_ ?_ | with_reducible refine wkF fun _ _ _ => ?_ | with_reducible intro _ | refine Calling.eq (P1 _) ?_ | refine Calling.eq (P2 _) ?_ | refine Calling.eq (P3 _) ?_ | refine Calling.eq (R1 _) ?_ | refine Calling.eq (W.go _ (hsv _ _)) ?_ | exact ag | fail))
    exact fin0
theorem validModules_c {G : Heap} (g : GH G) (hs : Sub G H) (m : Mod) (hm : m.num) : AC Tryd.prog 3 [m.tv] H (fun r H' => r = .s (.bool true) ∧ H' = H) := by
  refine AC.body Tryd.func3 rfl rfl (n := 48) (res := [.tmp 2]) rfl rfl (by simp) ?_
  simp only [ent]
  have S1 := fun H => rsize_c m H
  have hsz : decide ((2000 : Int) < m.size) = false → m.little := little_of
  generalize m.size = s1 at *
  have W := later fun (K : Heap) (hs : Sub G K) => awake_c g hs
  have C := later fun (hl : m.little) H => copy_c m hl H
  have R1 := later fun (hm : m.ok) H => rmodule_c m hm H
  have R2 := later fun (hm : m.ok) H => rvCheck_c m hm H
  have M1 := later fun (hm : m.ok) (K : Heap) (b1 b2 b3 b4 b5 : Nat) (O : Owns G K (m.rows b1 b2 b3 b4 b5)) => modO_c g hm O
  have M2 := later fun (hm : m.ok) (K : Heap) (b1 b2 b3 b4 b5 : Nat) (O : Owns G K (m.rows b1 b2 b3 b4 b5)) => chkO_c g hm O
  have M3 := fun (hm : m.ok) (K : Heap) (b1 b2 b3 b4 b5 : Nat) (O : Owns G K (m.rows b1 b2 b3 b4 b5)) => sameO_c (n := m) g hm O
  rw [show decide (m = m) = true from decide_eq_true rfl] at M3
  replace M3 := later M3
  have hnum := later hm
  have hr := flt_range m
  have hw : IntKind.i64.wrap m.flt.1 = m.flt.1 := wi64 (by omega) (by omega)
  replace hsz := later hsz
  clear hm hr
  simp only [Mod.tv_def, Mod.own_def] at S1 R1 R2 C M1 M2 M3 ⊢
  (repeat' (first | refine wk ?_ | refine wk2 ?_ ?_ | with_reducible refine wkF fun _ _ _ => ?_ | with_reducible intro _ | exact ag | fail))
  rename_i v hv hvn
  have hsv : ∀ r, Sub G (upd H v r) := fun r => Sub.upd hs (hs.none hv)
  cases q1 : decide ((2000 : Int) < s1) with
  | true =>
    (repeat' (first | refine wk ?_ | refine wk2 ?_ ?_ | with_reducible refine wkF fun _ _ _ => ?_ | with_reducible intro _ | refine Calling.eq (S1 _) ?_ | refine Calling.eq (W.go _ (hsv _)) ?_ | exact ag | fail))
    exact fin0
  | false =>
    (repeat' (first | refine wk ?_ | refine wk2 ?_ ?_ | with_reducible refine wkF fun _ _ _ => ?_ | with_reducible intro _ | refine Calling.eq (S1 _) ?_ | exact ag | fail))
    have hok := ok_of hnum.go (hsz.go q1)
    replace R1 := R1.go hok
    replace R2 := R2.go hok
    replace M1 := later (M1.go hok)
    replace M2 := later (M2.go hok)
    replace M3 := later (M3.go hok)
    clear hok
    refine Calling.by (C.go (hsz.go q1) _) ?_
    rintro r K ⟨b1, b2, b3, b4, b5, rfl, O⟩
    have hKv := O.sub v _ (upd_self _ _ _)
    have hHK : Sub H K := (Sub.upd (Sub.refl _) hv).trans O.sub
    replace O := later (O.less (hsv _))
    (repeat' (first | refine wk ?_ | refine wk2 ?_ ?_ | with_reducible refine wkF fun _ _ _ => ?_ | with_reducible intro _ | exact ag | fail))
    rename_i t ht htn
    have Ot : ∀ c, Owns G (upd K t c) (m.rows b1 b2 b3 b4 b5) := fun c => O.go.fresh ht
    replace Ot := later Ot
    (repeat' (first | refine wk ?_ | refine wk2 ?_ ?_ | with_reducible refine wkF fun _ _ _ => ?_ | with_reducible intro _ | refine Calling.eq (M1.go _ _ _ _ _ _ (Ot.go _)) ?_ | refine Calling.eq (R1 _) ?_ | exact ag | fail))
    refine ARun.drawB mixed [([], [0, 1, 2, 3, 4, 5, 6, 7, 8, 9, 10, 12], some 11), ([0, 1, 2, 3, 4, 5, 6, 7, 8, 12], [], some 13), ([0, 1, 2, 3, 4, 5, 6, 7, 8, 10], [14, 15, 16, 17, 18], some 19), ([0, 1, 2, 3, 4, 5, 6, 7, 8, 9, 10, 12, 14, 15], [20, 21], some 22), ([0, 1, 2, 3, 4, 5, 6, 7, 8, 9, 10, 12, 14, 15, 16, 17, 18, 20], [23, 24], none)] (by kernel_rfl) (by rfl) ?_
    (repeat' (first | refine wk ?_ | refine wk2 ?_ ?_ | with_reducible refine wkF fun _ _ _ => ?_ | with_reducible intro _ | refine Calling.eq (M2.go _ _ _ _ _ _ (Ot.go _)) ?_ | refine Calling.eq (R2 _) ?_ | refine Calling.eq (M3.go _ _ _ _ _ _ (Ot.go _)) ?_ | refine Calling.eq (W.go _ (Ot.go _).sub) ?_ | exact ag | fail))
    exact fin0
end Go.Abs
