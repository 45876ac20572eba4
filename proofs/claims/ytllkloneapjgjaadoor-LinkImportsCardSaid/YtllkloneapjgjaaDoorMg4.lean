import Derived.Test.YtllkloneapjgjaaDoorMg3
import Derived.Test.YtllkloneapjgjaaDoorAb20
/- Where a module stands: what the program's functions make. -/
namespace Go.Abs
set_option linter.unusedSimpArgs false
set_option linter.unusedVariables false
set_option maxHeartbeats 4000000
open Go.Proofs Go.Nm Go.Wd
set_option linter.unusedVariables false
set_option maxRecDepth 8000
variable {H : Heap}
/-- Pages for so many words. -/
def upN (n : Nat) : Nat := (n + 15) / 16
theorem upN_le {n : Nat} : n ≤ 16 * upN n ∧ 16 * upN n ≤ n + 15 := by unfold upN; omega
theorem up_c {n : Nat} (hn : n < 4611686018427387904) (H : Heap) : AC Tryd.prog 38 [.s (.int .i64 n)] H (fun r H' => r = .s (.int .i64 (upN n : Nat)) ∧ H' = H) := by
  refine AC.body Tryd.func38 rfl rfl (n := 7) (res := [.tmp 2]) rfl rfl (by simp) ?_
  simp only [ent]
  have h1 : IntKind.i64.wrap ((n : Int) + 16) = ((n + 16 : Nat) : Int) := by rw [wi64 (by omega) (by omega)]; omega
  have h2 : IntKind.i64.wrap (((n + 16 : Nat) : Int) - 1) = ((n + 15 : Nat) : Int) := by rw [wi64 (by omega) (by omega)]; omega
  have h3 : IntKind.i64.wrap (((n + 15 : Nat) : Int).tdiv 16) = ((upN n : Nat) : Int) := by
    have e : ((n + 15 : Nat) : Int).tdiv 16 = ((upN n : Nat) : Int) := by
      rw [Int.tdiv_eq_ediv_of_nonneg (by omega)]; unfold upN; omega
    have := @upN_le n
    rw [e, wi64 (by omega) (by omega)]
  (repeat' (first | refine wk ?_ | refine wk2 ?_ ?_ | with_reducible refine wkF fun _ _ _ => ?_ | with_reducible intro _ | exact ag | fail))
  exact fin0
theorem mayP_c {n : Nat} (hn : n ≤ 256) (H : Heap) : AC Tryd.prog 36 [.s (.int .i64 n)] H (fun r H' => r = .s (.bool true) ∧ H' = H) := by
  refine AC.body Tryd.func36 rfl rfl (n := 9) (res := [.tmp 2]) rfl rfl (by simp) ?_
  simp only [ent]
  have h1 : decide ((0 : Int) ≤ n) = true := by simp
  have h2 : decide ((n : Int) ≤ 256) = true := by simp; omega
  (repeat' (first | refine wk ?_ | refine wk2 ?_ ?_ | with_reducible refine wkF fun _ _ _ => ?_ | with_reducible intro _ | exact ag | fail))
  exact fin0
theorem of_cl {m : Mod} (hm : m.ok) (H : Heap) : AC Tryd.prog 17 [m.tv] H (fun r H' => r = .agg [.s (.int .i64 (upN m.co.length : Nat)), .s (.int .i64 (upN m.da.length : Nat))] ∧ H' = H) := by
  refine AC.body Tryd.func17 rfl rfl (n := 12) (res := [.cell 2 56]) rfl rfl (by simp) ?_
  simp only [ent]
  simp only [Mod.tv_def]
  have U1 := fun H => up_c hm.lco H
  have U2 := fun H => up_c hm.lda H
  clear hm
  (repeat' (first | refine wk ?_ | refine wk2 ?_ ?_ | with_reducible refine wkF fun _ _ _ => ?_ | with_reducible intro _ | exact ag | fail))
  refine ARun.drawB mixed [([], [0, 1, 2, 4, 5, 6], some 3), ([0, 1, 4, 5, 6], [], some 7), ([0, 1, 2, 4, 5], [8], some 9), ([], [], none)] (by kernel_rfl) (by rfl) ?_
  (repeat' (first | refine wk ?_ | refine wk2 ?_ ?_ | with_reducible refine wkF fun _ _ _ => ?_ | with_reducible intro _ | refine Calling.eq (U1 _) ?_ | refine Calling.eq (U2 _) ?_ | exact ag | fail))
  exact fin0
@[go_sem] theorem egPlan : Tryd.prog.eqGuardType Tryd.prog.depth 56 = false := by kernel_rfl
@[go_sem] theorem eqPlan (a b c d : Int) : eqTV Tryd.prog 9 56 (.agg [.s (.int .i64 a), .s (.int .i64 b)]) (.agg [.s (.int .i64 c), .s (.int .i64 d)]) = some ((a == c) && ((b == d) && true)) := by kernel_rfl
theorem pages_c {a b : Nat} (ha : a ≤ 256) (hb : b ≤ 256) (h : 0 < a + b) (H : Heap) : AC Tryd.prog 35 [.agg [.s (.int .i64 a), .s (.int .i64 b)]] H (fun r H' => r = .s (.int .i64 (a + b : Nat)) ∧ H' = H) := by
  refine AC.body Tryd.func35 rfl rfl (n := 23) (res := [.tmp 2]) rfl rfl (by simp) ?_
  simp only [ent]
  have M1 := fun H => mayP_c ha H
  have M2 := fun H => mayP_c hb H
  have h1 : IntKind.i64.wrap ((a : Int) + b) = ((a + b : Nat) : Int) := by rw [wi64 (by omega) (by omega)]; omega
  have h2 : (((a : Int) == 0) && (((b : Int) == 0) && true)) = false := by
    rw [Bool.and_true, Bool.and_eq_false_iff]; simp; omega
  clear ha hb h
  (repeat' (first | refine wk ?_ | refine wk2 ?_ ?_ | with_reducible refine wkF fun _ _ _ => ?_ | with_reducible intro _ | refine Calling.eq (M1 _) ?_ | refine Calling.eq (M2 _) ?_ | exact ag | fail))
  all_goals exact fin0
theorem wordsL_c {a b : Nat} (ha : a ≤ 256) (hb : b ≤ 256) (h : 0 < a + b) (H : Heap) : AC Tryd.prog 19 [.agg [.s (.int .i64 a), .s (.int .i64 b)]] H (fun r H' => r = .s (.int .i64 (16 * (a + b) : Nat)) ∧ H' = H) := by
  refine AC.body Tryd.func19 rfl rfl (n := 6) (res := [.tmp 2]) rfl rfl (by simp) ?_
  simp only [ent]
  have P := fun H => pages_c ha hb h H
  have h1 : IntKind.i64.wrap (((a + b : Nat) : Int) * 16) = ((16 * (a + b) : Nat) : Int) := by rw [wi64 (by omega) (by omega)]; omega
  clear ha hb h
  (repeat' (first | refine wk ?_ | refine wk2 ?_ ?_ | with_reducible refine wkF fun _ _ _ => ?_ | with_reducible intro _ | refine Calling.eq (P _) ?_ | exact ag | fail))
  exact fin0
theorem address_c {n : Nat} (hn : n ≤ 512) (H : Heap) : AC Tryd.prog 37 [.s (.int .i64 n)] H (fun r H' => r = .s (.int .u32 (80 + 16 * n : Nat)) ∧ H' = H) := by
  refine AC.body Tryd.func37 rfl rfl (n := 7) (res := [.tmp 2]) rfl rfl (by simp) ?_
  simp only [ent]
  have h1 : IntKind.i64.wrap ((n : Int) * 16) = ((16 * n : Nat) : Int) := by rw [wi64 (by omega) (by omega)]; omega
  have h2 : IntKind.i64.wrap (80 + ((16 * n : Nat) : Int)) = ((80 + 16 * n : Nat) : Int) := by rw [wi64 (by omega) (by omega)]; omega
  have h3 : IntKind.u32.wrap ((80 + 16 * n : Nat) : Int) = ((80 + 16 * n : Nat) : Int) := w32 (by omega) (by omega)
  (repeat' (first | refine wk ?_ | refine wk2 ?_ ?_ | with_reducible refine wkF fun _ _ _ => ?_ | with_reducible intro _ | exact ag | fail))
  exact fin0
theorem at_no {a b f : Nat} (ha : a ≤ 256) (hb : b ≤ 256) (h : 0 < a + b) (hf : f ≤ 256) (hn : 256 < f + (a + b)) (H : Heap) : AC Tryd.prog 16 [.agg [.s (.int .i64 a), .s (.int .i64 b)], .s (.int .i64 f)] H (fun r H' => r = .tup [.agg [.s (.int .u32 0), .s (.int .u32 0)], .s (.int .i64 11)] ∧ H' = H) := by
  refine AC.body Tryd.func16 rfl rfl (n := 32) (res := [.cell 4 52, .tmp 5]) rfl rfl (by simp) ?_
  simp only [ent]
  have P := fun H => pages_c ha hb h H
  have M := fun H => mayP_c hf H
  have h1 : ((((a + b : Nat) : Int)) == 0) = false := by simp; omega
  have h2 : IntKind.i64.wrap (256 - ((a + b : Nat) : Int)) = 256 - ((a + b : Nat) : Int) := wi64 (by omega) (by omega)
  have h3 : decide (256 - ((a + b : Nat) : Int) < (f : Int)) = true := by simp; omega
  clear ha hb h hf hn
  (repeat' (first | refine wk ?_ | refine wk2 ?_ ?_ | with_reducible refine wkF fun _ _ _ => ?_ | with_reducible intro _ | refine Calling.eq (P _) ?_ | refine Calling.eq (M _) ?_ | exact ag | fail))
  exact fin0
theorem at_ok {a b f : Nat} (ha : a ≤ 256) (hb : b ≤ 256) (h : 0 < a + b) (hf : f ≤ 256) (hn : f + (a + b) ≤ 256) (H : Heap) : AC Tryd.prog 16 [.agg [.s (.int .i64 a), .s (.int .i64 b)], .s (.int .i64 f)] H (fun r H' => r = .tup [.agg [.s (.int .u32 (80 + 16 * f : Nat)), .s (.int .u32 (80 + 16 * (f + a) : Nat))], .s (.int .i64 0)] ∧ H' = H) := by
  refine AC.body Tryd.func16 rfl rfl (n := 32) (res := [.cell 4 52, .tmp 5]) rfl rfl (by simp) ?_
  simp only [ent]
  have P := fun H => pages_c ha hb h H
  have M := fun H => mayP_c hf H
  have A1 := fun H => address_c (n := f) (by omega) H
  have A2 := fun H => address_c (n := f + a) (by omega) H
  have h1 : ((((a + b : Nat) : Int)) == 0) = false := by simp; omega
  have h2 : IntKind.i64.wrap (256 - ((a + b : Nat) : Int)) = 256 - ((a + b : Nat) : Int) := wi64 (by omega) (by omega)
  have h3 : decide (256 - ((a + b : Nat) : Int) < (f : Int)) = false := by simp; omega
  have h4 : IntKind.i64.wrap ((f : Int) + a) = ((f + a : Nat) : Int) := by rw [wi64 (by omega) (by omega)]; omega
  clear ha hb h hf hn
  (repeat' (first | refine wk ?_ | refine wk2 ?_ ?_ | with_reducible refine wkF fun _ _ _ => ?_ | with_reducible intro _ | refine Calling.eq (P _) ?_ | refine Calling.eq (M _) ?_ | exact ag | fail))
  refine ARun.drawB mixed [([], [0, 2, 3, 4, 5], some 1), ([2, 3, 4, 5], [], some 6), ([0, 2, 3, 4], [7], some 8), ([], [9], none)] (by kernel_rfl) (by rfl) ?_
  (repeat' (first | refine wk ?_ | refine wk2 ?_ ?_ | with_reducible refine wkF fun _ _ _ => ?_ | with_reducible intro _ | refine Calling.eq (A1 _) ?_ | refine Calling.eq (A2 _) ?_ | exact ag | fail))
  exact fin0
/-- What a word is: in code or in data, where, and whether it is there. -/
def Mod.spot (m : Mod) (i : Nat) : Bool × Nat × Bool := if i < m.co.length then (true, i, true) else if 16 * upN m.co.length ≤ i ∧ i - 16 * upN m.co.length < m.da.length then (false, i - 16 * upN m.co.length, true) else (false, 0, false)
theorem spotL_c {m : Mod} (hm : m.ok) {i : Nat} (hi : i < 4611686018427387904) (H : Heap) : AC Tryd.prog 20 [m.tv, .s (.int .i64 i)] H (fun r H' => r = .tup [.s (.bool (m.spot i).1), .s (.int .i64 ((m.spot i).2.1 : Nat)), .s (.bool (m.spot i).2.2)] ∧ H' = H) := by
  refine AC.body Tryd.func20 rfl rfl (n := 32) (res := [.tmp 4, .tmp 5, .tmp 6]) rfl rfl (by simp) ?_
  simp only [ent]
  have U1 := fun H => up_c hm.lco H
  have hl := hm.lco
  have hu := @upN_le m.co.length
  have h0 : decide ((i : Int) < 0) = false := by simp
  simp only [Mod.tv_def]
  unfold Mod.spot
  have h3 : IntKind.i64.wrap (((upN m.co.length : Nat) : Int) * 16) = 16 * ((upN m.co.length : Nat) : Int) := by rw [wi64 (by omega) (by omega)]; omega
  have h4 : IntKind.i64.wrap ((i : Int) - 16 * ((upN m.co.length : Nat) : Int)) = (i : Int) - 16 * ((upN m.co.length : Nat) : Int) := wi64 (by omega) (by omega)
  clear hm
  by_cases q1 : i < m.co.length
  · rw [if_pos q1]
    have h1 : decide ((i : Int) < m.co.length) = true := by simp; omega
    clear hl hu q1
    (repeat' (first | refine wk ?_ | refine wk2 ?_ ?_ | with_reducible refine wkF fun _ _ _ => ?_ | with_reducible intro _ | refine Calling.eq (U1 _) ?_ | exact ag | fail))
    exact fin0
  · rw [if_neg q1]
    have h1 : decide ((i : Int) < m.co.length) = false := by simp; omega
    by_cases q2 : 16 * upN m.co.length ≤ i
    · have h5 : decide ((i : Int) - 16 * ((upN m.co.length : Nat) : Int) < 0) = false := by simp; omega
      by_cases q3 : i - 16 * upN m.co.length < m.da.length
      · rw [if_pos ⟨q2, q3⟩]
        have h6 : decide ((m.da.length : Int) ≤ (i : Int) - 16 * ((upN m.co.length : Nat) : Int)) = false := by simp; omega
        have h7 : (((i - 16 * upN m.co.length : Nat)) : Int) = (i : Int) - 16 * ((upN m.co.length : Nat) : Int) := by omega
        simp only [h7]
        clear hl hu q1 q2 q3 h7
        (repeat' (first | refine wk ?_ | refine wk2 ?_ ?_ | with_reducible refine wkF fun _ _ _ => ?_ | with_reducible intro _ | refine Calling.eq (U1 _) ?_ | exact ag | fail))
        exact fin0
      · rw [if_neg (fun h => q3 h.2)]
        have h6 : decide ((m.da.length : Int) ≤ (i : Int) - 16 * ((upN m.co.length : Nat) : Int)) = true := by simp; omega
        clear hl hu q1 q2 q3
        (repeat' (first | refine wk ?_ | refine wk2 ?_ ?_ | with_reducible refine wkF fun _ _ _ => ?_ | with_reducible intro _ | refine Calling.eq (U1 _) ?_ | exact ag | fail))
        exact fin0
    · rw [if_neg (fun h => q2 h.1)]
      have h5 : decide ((i : Int) - 16 * ((upN m.co.length : Nat) : Int) < 0) = true := by simp; omega
      clear hl hu q1 q2
      (repeat' (first | refine wk ?_ | refine wk2 ?_ ?_ | with_reducible refine wkF fun _ _ _ => ?_ | with_reducible intro _ | refine Calling.eq (U1 _) ?_ | exact ag | fail))
      exact fin0
theorem spot_lt {m : Mod} {i : Nat} (h : (m.spot i).2.2 = true) : (m.spot i).2.1 < if (m.spot i).1 then m.co.length else m.da.length := by
  unfold Mod.spot at h ⊢
  split
  · rename_i q; simpa using q
  · rename_i q
    rw [if_neg q] at h
    split
    · rename_i q2; simpa using q2.2
    · rename_i q2; rw [if_neg q2] at h; cases h
/-- A word as the module has it. -/
def Mod.raw (m : Mod) (i : Nat) : Nat := if (m.spot i).2.2 then if (m.spot i).1 then m.co.getD (m.spot i).2.1 0 else m.da.getD (m.spot i).2.1 0 else 0
theorem raw_c {m : Mod} (hm : m.ok) {i : Nat} (hi : i < 4611686018427387904) (H : Heap) : AC Tryd.prog 21 [m.tv, .s (.int .i64 i)] H (fun r H' => r = .s (.int .u32 (m.raw i : Nat)) ∧ H' = H) := by
  refine AC.body Tryd.func21 rfl rfl (n := 30) (res := [.tmp 4]) rfl rfl (by simp) ?_
  simp only [ent]
  have S := fun H => spotL_c hm hi H
  have hlt := @spot_lt m i
  unfold Mod.raw
  simp only [Mod.tv_def] at S ⊢
  clear hm
  generalize m.spot i = p at *
  obtain ⟨c, a, k⟩ := p
  simp only [] at S hlt ⊢
  have h0 : (0 : Int) ≤ a := by omega
  cases k with
  | false =>
    simp only [Bool.false_eq_true, if_false]
    (repeat' (first | refine wk ?_ | refine wk2 ?_ ?_ | with_reducible refine wkF fun _ _ _ => ?_ | with_reducible intro _ | refine Calling.eq (S _) ?_ | exact ag | fail))
    exact fin0
  | true =>
    replace hlt := hlt rfl
    cases c with
    | true =>
      simp only [if_true] at hlt ⊢
      obtain ⟨x, hx⟩ := at_ hlt
      have hx1 := vget u1 hx
      rw [u1_def] at hx1
      have hd : m.co.getD a 0 = x := by simp [List.getD_eq_getElem?_getD, hx]
      rw [hd]
      clear hd hx
      (repeat' (first | refine wk ?_ | refine wk2 ?_ ?_ | with_reducible refine wkF fun _ _ _ => ?_ | with_reducible intro _ | refine Calling.eq (S _) ?_ | exact ag | fail))
      exact fin0
    | false =>
      simp only [Bool.false_eq_true, if_false, if_true] at hlt ⊢
      obtain ⟨x, hx⟩ := at_ hlt
      have hx1 := vget u1 hx
      rw [u1_def] at hx1
      have hd : m.da.getD a 0 = x := by simp [List.getD_eq_getElem?_getD, hx]
      rw [hd]
      clear hd hx
      (repeat' (first | refine wk ?_ | refine wk2 ?_ ?_ | with_reducible refine wkF fun _ _ _ => ?_ | with_reducible intro _ | refine Calling.eq (S _) ?_ | exact ag | fail))
      exact fin0
end Go.Abs
/- Addresses in words: what the program's functions make. -/
namespace Go.Abs
set_option linter.unusedSimpArgs false
set_option linter.unusedVariables false
set_option maxHeartbeats 4000000
open Go.Proofs Go.Nm Go.Wd
set_option linter.unusedVariables false
set_option maxRecDepth 8000
variable {H : Heap}
/-- An instruction's number stands in its lowest bits. -/
theorem bit_enc {o d a v i : Nat} (hv : v < 2 ^ 21) (hi : i < 21) : (encN o d a 0 (v : Int)).testBit i = v.testBit i := by
  unfold encN
  have c : cutN (v : Int) = v := by unfold cutN; omega
  rw [c, Nat.or_zero, withN_bit _ _ _ _ _ (withN_lt _ _ _ _) (by decide) (by omega), if_neg (by omega), withN_bit _ _ _ _ _ (withN_lt _ _ _ _) (by decide) (by omega), if_neg (by omega), withN_bit _ _ _ _ _ (by omega) (by decide) (by omega), if_neg (by omega)]
theorem bit_high {o d a v i : Nat} (hv : v < 2 ^ 21) (hi : 21 ≤ i) : (encN o d a 0 (v : Int)).testBit i = (encN o d a 0 0).testBit i := by
  by_cases h32 : i < 32
  · unfold encN
    have c : cutN (v : Int) = v := by unfold cutN; omega
    have c0 : cutN 0 = 0 := rfl
    rw [c, c0, Nat.or_zero, Nat.or_zero]
    have hb : v.testBit i = false := Nat.testBit_lt_two_pow (Nat.lt_of_lt_of_le hv (Nat.pow_le_pow_right (by decide) hi))
    rw [withN_bit _ _ _ _ _ (withN_lt _ _ _ _) (by decide) h32, withN_bit _ _ _ _ _ (withN_lt _ _ _ _) (by decide) h32, withN_bit _ _ _ _ _ (by omega) (by decide) h32]
    rw [withN_bit _ _ _ _ _ (withN_lt _ _ _ _) (by decide) h32, withN_bit _ _ _ _ _ (withN_lt _ _ _ _) (by decide) h32, withN_bit _ _ _ _ _ (by decide) (by decide) h32, hb, Nat.zero_testBit]
  · have h : ∀ v : Int, (encN o d a 0 v).testBit i = false := fun v => Nat.testBit_lt_two_pow (Nat.lt_of_lt_of_le (withN_lt _ _ _ _) (Nat.pow_le_pow_right (by decide) (by omega)))
    rw [h, h]
theorem enc_add {o d a v : Nat} (hv : v < 2 ^ 21) : encN o d a 0 (v : Int) = encN o d a 0 0 + v := by
  have e : encN o d a 0 0 = 2 ^ 21 * (encN o d a 0 0 / 2 ^ 21) := by
    have : encN o d a 0 0 % 2 ^ 21 = 0 := by
      apply Nat.eq_of_testBit_eq
      intro i
      rw [Nat.testBit_mod_two_pow, Nat.zero_testBit]
      by_cases hi : i < 21
      · have := bit_enc (o := o) (d := d) (a := a) (v := 0) (i := i) (by decide) hi
        rw [Nat.zero_testBit] at this
        rw [show encN o d a 0 0 = encN o d a 0 ((0 : Nat) : Int) from rfl, this]; simp
      · simp [hi]
    omega
  rw [e, Nat.two_pow_add_eq_or_of_lt hv, ← e]
  apply Nat.eq_of_testBit_eq
  intro i
  rw [Nat.testBit_or]
  by_cases hi : i < 21
  · have := bit_enc (o := o) (d := d) (a := a) (v := 0) (i := i) (by decide) hi
    rw [Nat.zero_testBit] at this
    rw [bit_enc hv hi, show encN o d a 0 0 = encN o d a 0 ((0 : Nat) : Int) from rfl, this]; simp
  · rw [bit_high hv (by omega), Nat.testBit_lt_two_pow (x := v) (Nat.lt_of_lt_of_le hv (Nat.pow_le_pow_right (by decide) (by omega)))]; simp
/-- A word that an address goes to. -/
def fitW (k w : Nat) : Bool := if ((k : Int) == 0) || ((k : Int) == 7) then same5 (dec w) ⟨17, 0, 0, 0, 0⟩ else (((dec w).o : Int) == 2) && ((dec w).i == 0)
theorem fitW_dec {k w : Nat} (h : fitW k w = true) : decE w = 0 ∧ (dec w).b = 0 ∧ (dec w).i = 0 ∧ (((((k : Int) == 0) || ((k : Int) == 7)) = true ∧ (dec w).o = 17 ∧ (dec w).d = 0 ∧ (dec w).a = 0) ∨ ((((k : Int) == 0) || ((k : Int) == 7)) = false ∧ (dec w).o = 2)) ∧ w = encN (dec w).o (dec w).d (dec w).a 0 0 ∧ (dec w).chk = 0 := by
  have ho : (dec w).o = 17 ∨ (dec w).o = 2 := by
    unfold fitW at h
    split at h
    · unfold same5 at h; simp at h; omega
    · simp at h; omega
  by_cases hk : insOk w = true
  · have hd : dec w = parts w := if_pos hk
    have hi : (dec w).i = 0 := by
      unfold fitW at h
      split at h
      · unfold same5 at h; simp at h; omega
      · simp at h; omega
    have hb : (dec w).b = 0 := by
      rw [hd] at ho ⊢
      unfold parts at ho ⊢
      simp only [] at ho ⊢
      have e : (opN w : Int) = ((bitsN w 27 5 : Nat) : Int) := rfl
      rcases ho with ho | ho <;> rw [e, ho] <;> rfl
    have hk' := hk
    unfold insOk at hk'
    obtain ⟨hc, hw⟩ := Bool.and_eq_true_iff.1 hk'
    have hc := of_decide_eq_true hc
    have hw := beq_iff_eq.1 hw
    unfold Ins.word at hw
    rw [if_pos hc, ← hd, hb, hi] at hw
    refine ⟨if_pos hk, hb, hi, ?_, hw.symm, by rw [hd]; exact hc⟩
    unfold fitW at h
    split at h
    · rename_i q
      unfold same5 at h
      simp at h
      exact .inl ⟨q, by omega, by omega, by omega⟩
    · rename_i q
      simp at h
      exact .inr ⟨by simpa using q, by omega⟩
  · have : dec w = Ins.zero := if_neg hk
    rw [this] at ho
    rcases ho with ho | ho <;> cases ho
theorem blank_c {k w : Nat} (hw : w < 2 ^ 32) (h : fitW k w = true) (H : Heap) : AC Tryd.prog 75 [.s (.int .u32 w), .s (.int .u8 k)] H (fun r H' => r = .tup [.agg (dec w).enc, .s (.int .i32 0), .s (.int .i64 0)] ∧ H' = H) := by
  refine AC.body Tryd.func75 rfl rfl (n := 47) (res := [.cell 4 117, .tmp 5, .tmp 6]) rfl rfl (by simp) ?_
  simp only [ent]
  have D := fun H => decode_c (H := H) hw
  obtain ⟨h1, h2, h3, h4, -⟩ := fitW_dec h
  rw [h1, Ins.enc_def, h2, h3] at D
  rw [Ins.enc_def, h2, h3]
  clear h h1 h2 h3
  rcases h4 with ⟨q, e1, e2, e3⟩ | ⟨q, e1⟩
  · rw [e1, e2, e3] at D ⊢
    clear e1 e2 e3
    cases q0 : ((k : Int) == 0) with
    | true =>
      (repeat' (first | refine wk ?_ | refine wk2 ?_ ?_ | with_reducible refine wkF fun _ _ _ => ?_ | with_reducible intro _ | refine Calling.eq (D _) ?_ | exact ag | fail))
      all_goals exact fin0
    | false =>
      rw [q0, Bool.false_or] at q
      (repeat' (first | refine wk ?_ | refine wk2 ?_ ?_ | with_reducible refine wkF fun _ _ _ => ?_ | with_reducible intro _ | refine Calling.eq (D _) ?_ | exact ag | fail))
      all_goals exact fin0
  · rw [e1] at D ⊢
    clear e1
    obtain ⟨q0, q7⟩ := Bool.or_eq_false_iff.1 q
    (repeat' (first | refine wk ?_ | refine wk2 ?_ ?_ | with_reducible refine wkF fun _ _ _ => ?_ | with_reducible intro _ | refine Calling.eq (D _) ?_ | exact ag | fail))
    all_goals exact fin0
theorem dec_lt (w : Nat) : (dec w).ok := by
  unfold dec
  split
  · exact parts_ok w
  · exact ⟨by decide, by decide, by decide, by decide, by decide, by decide⟩
/-- The instruction with an address in it. -/
theorem enc_at {k w v : Nat} (h : fitW k w = true) (hv : v < 2 ^ 20) : (⟨(dec w).o, (dec w).d, (dec w).a, (dec w).b, (v : Int)⟩ : Ins).chk = 0 ∧ (⟨(dec w).o, (dec w).d, (dec w).a, (dec w).b, (v : Int)⟩ : Ins).word = w + v := by
  obtain ⟨h1, h2, h3, h4, h5, h6⟩ := fitW_dec h
  have hchk : (⟨(dec w).o, (dec w).d, (dec w).a, (dec w).b, (v : Int)⟩ : Ins).chk = 0 := by
    unfold Ins.chk at h6 ⊢
    simp only [] at h6 ⊢
    have hz := check_zero h6
    unfold checkR badR
    obtain ⟨z1, z2, z3, z4, z5, _⟩ := hz
    have hf : fits21 (v : Int) = true := by unfold fits21; simp; omega
    have ho : (dec w).o = 17 ∨ (dec w).o = 2 := by rcases h4 with h4 | h4; exact .inl h4.2.1; exact .inr h4.2
    have hu : (usesR (((dec w).o : Nat) : Int)).2.2.2 = true := by rcases ho with ho | ho <;> rw [ho] <;> rfl
    rw [z2, z3, z4, hu, hf]
    have hd : decide ((21 : Int) < ((dec w).o : Nat)) = false := by rcases ho with ho | ho <;> rw [ho] <;> rfl
    rw [hd]
    simp
    omega
  refine ⟨hchk, ?_⟩
  unfold Ins.word
  rw [if_pos hchk, h2]
  show encN (dec w).o (dec w).d (dec w).a 0 (v : Int) = w + v
  rw [enc_add (by omega), ← h5]
theorem apply_c {k w v : Nat} (hk : k ≤ 7) (hw : w < 2 ^ 32) (h : if dataK k = true then w = 0 else fitW k w = true) (hv : v < 2 ^ 20) (H : Heap) : AC Tryd.prog 55 [.s (.int .u32 w), .s (.int .u8 k), .s (.int .u32 v)] H (fun r H' => r = .tup [.s (.int .u32 (w + v : Nat)), .s (.int .i64 0)] ∧ H' = H) := by
  refine AC.body Tryd.func55 rfl rfl (n := 45) (res := [.tmp 6, .tmp 7]) rfl rfl (by simp) ?_
  simp only [ent]
  have hcase := k456 k
  cases hd : dataK k with
  | true =>
    rw [if_pos hd] at h
    subst h
    rw [Nat.zero_add]
    rcases hcase.1 hd with h | ⟨h, h'⟩ | ⟨h, h', h''⟩
    all_goals
      (repeat' (first | refine wk ?_ | refine wk2 ?_ ?_ | with_reducible refine wkF fun _ _ _ => ?_ | with_reducible intro _ | exact ag | fail))
      exact fin0
  | false =>
    rw [hd, if_neg (by decide)] at h
    obtain ⟨q4, q5, q6⟩ := hcase.2 hd
    have B := fun H => blank_c hw h H
    obtain ⟨-, e2, e3, -⟩ := fitW_dec h
    obtain ⟨c1, c2⟩ := enc_at h hv
    have hok := dec_lt w
    have E := fun H => encode_c (H := H) (x := ⟨(dec w).o, (dec w).d, (dec w).a, (dec w).b, (v : Int)⟩) ⟨hok.1, hok.2.1, hok.2.2.1, hok.2.2.2.1, by show (-2147483648 : Int) ≤ (v : Int); omega, by show (v : Int) < 2147483648; omega⟩
    rw [c1, c2, Ins.enc_def] at E
    rw [Ins.enc_def] at B
    have F := fun H : Heap => fits_c (H := H) (v := (v : Int)) (by omega) (by omega)
    have h7 : decide ((7 : Int) < (k : Int)) = false := by simp; omega
    have hf : fits21 (v : Int) = true := by unfold fits21; simp; omega
    have w1 : IntKind.i64.wrap (v : Int) = v := wi64 (by omega) (by omega)
    have w2 : IntKind.i32.wrap (v : Int) = v := by unfold IntKind.wrap; simp [IntKind.bits, IntKind.signed]; omega
    have hi0 : ((dec w).i != 0) = false := by rw [e3]; rfl
    clear h c1 c2 hok hcase e2 hv hk hw hd e3
    generalize (dec w).o = o at *
    generalize (dec w).d = d at *
    generalize (dec w).a = a at *
    generalize (dec w).b = b at *
    generalize (dec w).i = z at *
    (repeat' (first | refine wk ?_ | refine wk2 ?_ ?_ | with_reducible refine wkF fun _ _ _ => ?_ | with_reducible intro _ | refine Calling.eq (B _) ?_ | refine Calling.eq (F _) ?_ | refine Calling.eq (E _) ?_ | exact ag | fail))
    exact fin0
/-- The address that a relocation stands for. -/
def val (r : Rlc) (pc pd : Nat) (sl : List Nat) : Nat := if impK r then sl.getD r.w 0 else if ((r.k : Int) == 2) || ((r.k : Int) == 5) then (pd + r.w) % 2 ^ 32 else (pc + r.w) % 2 ^ 32
theorem value_c {r : Rlc} {pc pd : Nat} {sl : List Nat} (hr : r.k ≤ 7) (hw : r.w < 65536) (hi : impK r = true → r.w < sl.length) (H : Heap) : AC Tryd.prog 54 [.agg (relE r), .agg [.s (.int .u32 pc), .s (.int .u32 pd)], .vs 1 (sl.map u1)] H (fun x H' => x = .tup [.s (.int .u32 (val r pc pd sl : Nat)), .s (.int .i64 0)] ∧ H' = H) := by
  refine AC.body Tryd.func54 rfl rfl (n := 42) (res := [.tmp 6, .tmp 7]) rfl rfl (by simp) ?_
  simp only [ent]
  rw [relE_def]
  have e16 := u16_i64 hw
  have e32 : IntKind.u32.wrap (r.w : Int) = r.w := w32 (by omega) (by omega)
  have e1 : IntKind.u32.wrap ((pc : Int) + r.w) = (((pc + r.w) % 2 ^ 32 : Nat) : Int) := by rw [IntKind.wrap_u32]; omega
  have e2 : IntKind.u32.wrap ((pd : Int) + r.w) = (((pd + r.w) % 2 ^ 32 : Nat) : Int) := by rw [IntKind.wrap_u32]; omega
  unfold val
  have h0 : (0 : Int) ≤ r.w := by omega
  rcases k014 r with ⟨hI, hk⟩ | ⟨hI, k0, k1, k4⟩
  · have hlt := hi hI
    obtain ⟨x, hx⟩ := at_ hlt
    have hx1 := vget u1 hx
    rw [u1_def] at hx1
    have hd : sl.getD r.w 0 = x := by simp [List.getD_eq_getElem?_getD, hx]
    have h1 : decide ((sl.length : Int) ≤ r.w) = false := by simp; omega
    rw [if_pos hI, hd]
    clear hi hlt hd hx hI hr hw
    rcases hk with h | ⟨h, h'⟩ | ⟨h, h', h''⟩
    all_goals
      (repeat' (first | refine wk ?_ | refine wk2 ?_ ?_ | with_reducible refine wkF fun _ _ _ => ?_ | with_reducible intro _ | exact ag | fail))
      exact fin0
  · rw [hI, if_neg (by decide)]
    clear hi
    cases k2 : ((r.k : Int) == 2) with
    | true =>
      rw [Bool.true_or, if_pos rfl]
      clear hI hr hw
      (repeat' (first | refine wk ?_ | refine wk2 ?_ ?_ | with_reducible refine wkF fun _ _ _ => ?_ | with_reducible intro _ | exact ag | fail))
      exact fin0
    | false =>
      cases k5 : ((r.k : Int) == 5) with
      | true =>
        rw [Bool.false_or, if_pos rfl]
        clear hI hr hw
        (repeat' (first | refine wk ?_ | refine wk2 ?_ ?_ | with_reducible refine wkF fun _ _ _ => ?_ | with_reducible intro _ | exact ag | fail))
        exact fin0
      | false =>
        rw [Bool.false_or, if_neg (by decide)]
        cases k3 : ((r.k : Int) == 3) with
        | true =>
          clear hI hr hw
          (repeat' (first | refine wk ?_ | refine wk2 ?_ ?_ | with_reducible refine wkF fun _ _ _ => ?_ | with_reducible intro _ | exact ag | fail))
          exact fin0
        | false => cases k6 : ((r.k : Int) == 6) with
          | true =>
            clear hI hr hw
            (repeat' (first | refine wk ?_ | refine wk2 ?_ ?_ | with_reducible refine wkF fun _ _ _ => ?_ | with_reducible intro _ | exact ag | fail))
            exact fin0
          | false =>
            have k7 : ((r.k : Int) == 7) = true := by simp at *; omega
            clear hI hr hw
            (repeat' (first | refine wk ?_ | refine wk2 ?_ ?_ | with_reducible refine wkF fun _ _ _ => ?_ | with_reducible intro _ | exact ag | fail))
            exact fin0
end Go.Abs
/- A module's words with all addresses: what the program's functions make. -/
namespace Go.Abs
set_option linter.unusedSimpArgs false
set_option linter.unusedVariables false
set_option maxHeartbeats 4000000
open Go.Proofs Go.Nm Go.Wd
set_option linter.unusedVariables false
set_option maxRecDepth 8000
variable {H : Heap}
theorem fi_cases {α : Type} (p : α → Bool) (l : List α) : (fi p l = -1 ∧ ∀ x ∈ l, p x = false) ∨ ∃ n x, fi p l = ((n : Nat) : Int) ∧ l[n]? = some x ∧ p x = true := by
  unfold fi
  cases h : l.findIdx? p with
  | none => exact .inl ⟨rfl, fun x hx => List.findIdx?_eq_none_iff.1 h x hx⟩
  | some n =>
    obtain ⟨h1, h2, _⟩ := List.findIdx?_eq_some_iff_getElem.1 h
    exact .inr ⟨n, l[n], rfl, List.getElem?_eq_getElem h1, h2⟩
/-- A relocation that names this word. -/
def hitW (c : Bool) (a : Nat) (r : Rlc) : Bool := ((r.a : Int) == (a : Int)) && ((dataK r.k != c) && decide ((r.k : Int) ≤ 7))
theorem dataL_c {k : Nat} (H : Heap) : AC Tryd.prog 53 [.s (.int .u8 k)] H (fun r H' => r = .s (.bool (dataK k)) ∧ H' = H) := by
  refine AC.body Tryd.func53 rfl rfl (n := 13) (res := [.tmp 2]) rfl rfl (by simp) ?_
  simp only [ent]
  (repeat' (first | refine wk ?_ | refine wk2 ?_ ?_ | with_reducible refine wkF fun _ _ _ => ?_ | with_reducible intro _ | exact ag | fail))
  all_goals
    refine fin1 ⟨?_, rfl⟩
    first | rfl | (simp only [resV, dataK, *, Bool.or_false, Bool.or_true, Bool.false_or, Bool.true_or, Bool.and_false, Bool.and_true, Bool.false_and, Bool.true_and, Bool.not_true, Bool.not_false, Bool.false_eq_true, if_true, if_false]; done) | (simp only [resV, dataK]; simp_all; done) | (simp only [resV, dataK]; simp_all <;> omega)
theorem bne_b (a b : Bool) : (!(a == b)) = (a != b) := rfl
theorem hit_c {r : Rlc} {c : Bool} {a : Nat} (hr : r.a < 65536) {x y : Nat} (hx : H x = some (.cells [.s (.int .i64 a)])) (hy : H y = some (.cells [.s (.bool c)])) : AC Tryd.prog 52 [.agg (relE r), .s (.pointer (some ⟨x, 0, none⟩)), .s (.pointer (some ⟨y, 0, none⟩))] H (fun z H' => z = .s (.bool (hitW c a r)) ∧ H' = H) := by
  refine AC.body Tryd.func52 rfl rfl (n := 22) (res := [.tmp 4]) rfl rfl (by simp) ?_
  simp only [ent]
  rw [relE_def]
  have D := fun H => dataL_c (k := r.k) H
  have e16 := u16_i64 hr
  clear hr
  generalize hd : dataK r.k = d at *
  (repeat' (first | refine wk ?_ | refine wk2 ?_ ?_ | with_reducible refine wkF fun _ _ _ => ?_ | with_reducible intro _ | exact ag | fail))
  refine ARun.drawB mixed [([], [0, 1, 2, 3, 4, 5, 6, 7, 9], some 8), ([0, 1, 2, 3, 4, 6, 9], [10, 11, 12, 13, 14, 15, 16, 17], none)] (by kernel_rfl) (by rfl) ?_
  (repeat' (first | refine wk ?_ | refine wk2 ?_ ?_ | with_reducible refine wkF fun _ _ _ => ?_ | with_reducible intro _ | refine Calling.eq (D _) ?_ | exact ag | fail))
  all_goals
    refine fin1 ⟨?_, rfl⟩
    simp only [resV, hitW, hd, bne_b]
    simp_all
/-- A module whose words can be linked. -/
structure Mod.lk (m : Mod) (pc pd : Nat) (sl : List Nat) : Prop where
  kind : ∀ r ∈ m.re, r.k ≤ 7
  plac : ∀ r ∈ m.re, r.a < m.len r
  fits : ∀ r ∈ m.re, m.fit r = true
  imp : ∀ r ∈ m.re, impK r = true → r.w < sl.length
  val : ∀ r ∈ m.re, Go.Abs.val r pc pd sl < 2 ^ 20
/-- What a word is raised by. -/
def Mod.inc (m : Mod) (pc pd : Nat) (sl : List Nat) (i : Nat) : Nat := if (m.spot i).2.2 then match m.re.find? (hitW (m.spot i).1 (m.spot i).2.1) with
  | some r => val r pc pd sl
  | none => 0 else 0
theorem find_fi {α : Type} {p : α → Bool} {l : List α} : (fi p l = -1 ∧ l.find? p = none) ∨ ∃ n x, fi p l = ((n : Nat) : Int) ∧ l[n]? = some x ∧ p x = true ∧ l.find? p = some x := by
  unfold fi
  cases h : l.findIdx? p with
  | none => exact .inl ⟨rfl, List.find?_eq_none.2 fun x hx => by simp [List.findIdx?_eq_none_iff.1 h x hx]⟩
  | some n =>
    obtain ⟨h1, h2, h3⟩ := List.findIdx?_eq_some_iff_getElem.1 h
    exact .inr ⟨n, l[n], rfl, List.getElem?_eq_getElem h1, h2, List.find?_eq_some_iff_getElem.2 ⟨h2, n, h1, rfl, fun j hj => by simpa using h3 j hj⟩⟩
theorem raw_lt {m : Mod} (hm : m.ok) (i : Nat) : m.raw i < 2 ^ 32 := by
  unfold Mod.raw
  have key : ∀ (l : List Nat) (a : Nat), (∀ x ∈ l, x < 2 ^ 32) → l.getD a 0 < 2 ^ 32 := fun l a h => by
    rw [List.getD_eq_getElem?_getD]
    cases e : l[a]? with
    | none => decide
    | some x => exact h x (List.mem_of_getElem? e)
  split
  · split
    · exact key _ _ hm.co
    · exact key _ _ hm.da
  · decide
/-- The word that a relocation names is one that an address goes to. -/
theorem hit_fit {m : Mod} {pc pd : Nat} {sl : List Nat} (h : m.lk pc pd sl) {i : Nat} {r : Rlc} (hr : r ∈ m.re) (hs : (m.spot i).2.2 = true) (hh : hitW (m.spot i).1 (m.spot i).2.1 r = true) : if dataK r.k = true then m.raw i = 0 else fitW r.k (m.raw i) = true := by
  have hf := h.fits r hr
  unfold hitW at hh
  simp only [Bool.and_eq_true, decide_eq_true_eq] at hh
  obtain ⟨h1, h2, _⟩ := hh
  have ha : r.a = (m.spot i).2.1 := by have := beq_iff_eq.1 h1; omega
  have hc : (m.spot i).1 = !dataK r.k := by revert h2; cases dataK r.k <;> cases (m.spot i).1 <;> simp
  unfold Mod.raw
  rw [hs, if_pos rfl, hc, ← ha]
  have hsp : r.spot.1 = !dataK r.k := rfl
  unfold Mod.fit at hf
  rw [hsp] at hf
  cases hd : dataK r.k with
  | true => rw [hd] at hf; simpa using hf
  | false => rw [hd] at hf; simpa [fitW] using hf
theorem lword_c {m : Mod} (hm : m.ok) {pc pd : Nat} {sl : List Nat} (h : m.lk pc pd sl) {i : Nat} (hi : i < 4611686018427387904) (H : Heap) : AC Tryd.prog 39 [m.tv, .agg [.s (.int .u32 pc), .s (.int .u32 pd)], .vs 1 (sl.map u1), .s (.int .i64 i)] H (fun r H' => r = .tup [.s (.int .u32 (m.raw i + m.inc pc pd sl i : Nat)), .s (.int .i64 0)] ∧ H' = H) := by
  refine AC.body Tryd.func39 rfl rfl (n := 63) (res := [.tmp 8, .tmp 9]) rfl rfl (by simp) ?_
  simp only [ent]
  have R := fun H => raw_c hm hi H
  have S := fun H => spotL_c hm hi H
  have hlt := raw_lt hm i
  have hF : ∀ (H : Heap) (x y : Nat), H x = some (.cells [.s (.int .i64 ((m.spot i).2.1 : Nat))]) → H y = some (.cells [.s (.bool (m.spot i).1)]) → AC Tryd.prog 51 [.vs 3 (m.re.map relE), .clo (.func 52) [] [.s (.pointer (some ⟨x, 0, none⟩)), .s (.pointer (some ⟨y, 0, none⟩))]] H (fun r H' => r = .s (.int .i64 (fi (hitW (m.spot i).1 (m.spot i).2.1) m.re)) ∧ H' = H) :=
    fun H x y hx hy => ixfR_c m.re hm.lre _ _ _ H (fun r hr => hit_c (hm.re r hr).2.1 hx hy)
  have hfit := fun r hr hs hh => hit_fit h (i := i) (r := r) hr hs hh
  replace hF := later hF
  unfold Mod.inc
  simp only [Mod.tv_def] at R S ⊢
  have hre := later hm.re
  have hlre := later hm.lre
  clear hm
  generalize m.spot i = p at *
  generalize m.raw i = w at *
  obtain ⟨c, a, k⟩ := p
  simp only [] at *
  cases k with
  | false =>
    rw [if_neg (by decide), Nat.add_zero]
    clear hfit hlt h
    (repeat' (first | refine wk ?_ | refine wk2 ?_ ?_ | with_reducible refine wkF fun _ _ _ => ?_ | with_reducible intro _ | refine Calling.eq (R _) ?_ | refine Calling.eq (S _) ?_ | refine Calling.eq (hF.go _ _ _ ag ag) ?_ | exact ag | fail))
    exact fin0
  | true =>
    rw [if_pos rfl]
    rcases find_fi (p := hitW c a) (l := m.re) with ⟨e, e2⟩ | ⟨n, x, e, hx, hp, e2⟩
    · rw [e2, Nat.add_zero]
      rw [e] at hF
      clear hfit hlt h e e2
      (repeat' (first | refine wk ?_ | refine wk2 ?_ ?_ | with_reducible refine wkF fun _ _ _ => ?_ | with_reducible intro _ | refine Calling.eq (R _) ?_ | refine Calling.eq (S _) ?_ | refine Calling.eq (hF.go _ _ _ ag ag) ?_ | exact ag | fail))
      exact fin0
    · rw [e2]
      rw [e] at hF
      have hmem := List.mem_of_getElem? hx
      have hx1 := vget relE hx
      have V := fun H => value_c (h.kind x hmem) (hre.go x hmem).2.2 (h.imp x hmem) H (pc := pc) (pd := pd)
      have A := fun H => apply_c (h.kind x hmem) hlt (hfit x hmem rfl hp) (h.val x hmem) H
      rw [relE_def] at hx1 V
      have h0 : (0 : Int) ≤ n := by omega
      have h1 : decide ((n : Int) < 0) = false := by simp
      clear hfit hlt h e e2 hx hp hmem
      (repeat' (first | refine wk ?_ | refine wk2 ?_ ?_ | with_reducible refine wkF fun _ _ _ => ?_ | with_reducible intro _ | refine Calling.eq (R _) ?_ | refine Calling.eq (S _) ?_ | refine Calling.eq (hF.go _ _ _ ag ag) ?_ | exact ag | fail))
      refine ARun.drawB mixed [([], [0, 1, 2, 3, 4, 5, 6], some 7), ([0, 1, 2, 3], [8, 9, 10, 11, 12], none)] (by kernel_rfl) (by rfl) ?_
      (repeat' (first | refine wk ?_ | refine wk2 ?_ ?_ | with_reducible refine wkF fun _ _ _ => ?_ | with_reducible intro _ | refine Calling.eq (V _) ?_ | refine Calling.eq (A _) ?_ | exact ag | fail))
      exact fin0
/-- A module's words with all addresses. -/
def Mod.wd (m : Mod) (pc pd : Nat) (sl : List Nat) (i : Nat) : Nat := m.raw i + m.inc pc pd sl i
def Mod.img (m : Mod) (pc pd : Nat) (sl : List Nat) : List Nat := (List.range (16 * (upN m.co.length + upN m.da.length))).map (m.wd pc pd sl)
theorem ownH_keep {K : Heap} {b c : Nat} {L : List (List TV)} {r : Root} (hb : L ≠ [] → K b = none) (hc : K c = some r) : ownH K b L c = some r := by
  by_cases h : L = []
  · rw [h, ownH_nil]; exact hc
  · rw [ownH_ne (eq_false (none_at (hb h) hc))]; exact hc
theorem sub_ownK {H K : Heap} (h : Sub H K) {b : Nat} {L : List (List TV)} (hb : L ≠ [] → K b = none) : Sub H (ownH K b L) := fun c r hc => ownH_keep hb (h c r hc)
/-- A row of one's own at the return. -/
theorem conv_ownK {H K : Heap} (h : Sub H K) {b k : Nat} {L : List (List TV)} (hb : L ≠ [] → K b = none) (he : Each k L) : Conv (ownH K b L) H (ownT b k L) (.vs k L) := by
  by_cases q : L = []
  · subst q; exact conv_nils
  · exact conv_own (sub_ownK h hb) (.inr (ownH_at q)) (h.gone (hb q)) he
theorem image_c {m : Mod} (hm : m.ok) {pc pd : Nat} {sl : List Nat} (h : m.lk pc pd sl) (l1 : m.co.length ≤ 512) (l2 : m.da.length ≤ 128) (l3 : m.re.length ≤ 256) (l0 : 0 < m.co.length) (H : Heap) :
    AC Tryd.prog 18 [m.tv, .agg [.s (.int .u32 pc), .s (.int .u32 pd)], .vs 1 (sl.map u1)] H (fun r H' => r = .tup [.vs 1 ((m.img pc pd sl).map u1), .s (.int .i64 0)] ∧ H' = H) := by
  refine AC.body Tryd.func18 rfl rfl (n := 51) (res := [.tmp 6, .tmp 7]) rfl rfl (by simp) ?_
  simp only [ent]
  have O := fun H => of_cl hm H
  have W := fun i hi H => lword_c hm h (i := i) hi H
  have hc := @upN_le m.co.length
  have hd := @upN_le m.da.length
  have N := fun H => wordsL_c (a := upN m.co.length) (b := upN m.da.length) (by omega) (by omega) (by omega) H
  have q1 : decide ((512 : Int) < m.co.length) = false := by simp; omega
  have q2 : decide ((128 : Int) < m.da.length) = false := by simp; omega
  have q3 : decide ((256 : Int) < m.re.length) = false := by simp; omega
  unfold Mod.img
  have hwd : ∀ i, m.raw i + m.inc pc pd sl i = m.wd pc pd sl i := fun i => rfl
  simp only [hwd] at W
  clear hwd
  replace W := later W
  have hn : 16 * (upN m.co.length + upN m.da.length) < 1000 := by omega
  simp only [Mod.tv_def] at O W ⊢
  clear hm h hc hd l1 l2 l3 l0
  generalize m.wd pc pd sl = f at *
  generalize upN m.co.length = a at *
  generalize upN m.da.length = b at *
  generalize 16 * (a + b) = n at *
  (repeat' (first | refine wk ?_ | refine wk2 ?_ ?_ | with_reducible refine wkF fun _ _ _ => ?_ | with_reducible intro _ | refine Calling.eq (O _) ?_ | refine Calling.eq (N _) ?_ | exact ag | fail))
  rename_i b3 h3 h3n b4 h4 h4n
  clear O N q1 q2 q3
  generalize hK : upd (upd H b3 _) b4 _ = K
  have e3 : K b3 = some (.cells [.s (.string m.nm), .vs 1 (m.ex.map s1), .vs 1 (m.im.map s1), .vs 1 (m.co.map u1), .vs 1 (m.da.map u1), .vs 3 (m.re.map relE)]) := by rw [← hK]; clear hK; exact ag
  have e4 : K b4 = some (.cells [.s (.int .u32 pc), .s (.int .u32 pd)]) := by rw [← hK]; clear hK; exact ag
  have hsub : Sub H K := by rw [← hK]; clear hK; exact sb
  clear hK h3 h3n h4 h4n
  refine ARun.rounds (fun st : Nat × Nat => ⟨[(2, .vs 1 (sl.map u1)), (3, .s (.pointer (some ⟨b3, 0, none⟩))), (4, .s (.pointer (some ⟨b4, 0, none⟩))), (8, ownT st.2 1 (((List.range st.1).map f).map u1)), (30, .s (.int .i64 n)), (31, .s (.int .i64 (st.1 : Nat)))], ownH K st.2 (((List.range st.1).map f).map u1)⟩) (fun st => n - st.1)
    (fun st => st.1 ≤ n ∧ (((List.range st.1).map f).map u1 ≠ [] → K st.2 = none)) ?_ (0, 0) ⟨by simp, fun h => absurd rfl h⟩ ?_
  · rintro ⟨i, b⟩ ⟨hi, hb⟩ next
    simp only [] at hi hb ⊢
    have hlen : (((List.range i).map f).map u1).length = i := by simp
    have hnx : ((List.range (i + 1)).map f).map u1 = ((List.range i).map f).map u1 ++ [u1 (f i)] := by rw [List.range_succ, List.map_append, List.map_append]; rfl
    have f3 := ownH_keep hb e3
    have f4 := ownH_keep hb e4
    by_cases hlt : i < n
    · have h1 : decide ((i : Int) < n) = true := by simp; omega
      have hw := w64s (i := i) (by omega)
      have W1 := W.go i (by omega)
      replace hb := later hb
      (repeat' (first | refine wk ?_ | refine wk2 ?_ ?_ | with_reducible refine wkF fun _ _ _ => ?_ | with_reducible intro _ | refine Calling.eq (W1 _) ?_ | refine Doing.fresh (oc_build1 ap36 (fun _ h => by cases h; rfl) rfl rfl (by decide) (by decide)) fun _ _ _ => ?_ | refine Doing.fresh (oc_append1 (e := u1 (f i)) ap36 us36 (each_u1 _) rfl rfl hb.go (by assumption) (by rw [hlen]; omega) (by rw [hlen]; omega)) fun _ _ _ => ?_ | exact ag | fail))
      rename_i b' hb' _
      refine ARun.weaken (next.go (i + 1, b') ⟨by simp only []; omega, fun _ => hb'⟩ (by simp only []; omega)) ?_
      simp only [hnx]
      exact leK (Sub.refl _)
    · have h1 : decide ((i : Int) < n) = false := by simp; omega
      obtain rfl : i = n := by omega
      clear next hnx
      replace hb := later hb
      (repeat' (first | refine wk ?_ | refine wk2 ?_ ?_ | with_reducible refine wkF fun _ _ _ => ?_ | with_reducible intro _ | exact ag | fail))
      exact Fin.done (vs := [ownT b 1 (((List.range i).map f).map u1), .s (.int .i64 0)]) ag (sub_ownK hsub hb.go) (Conv.tup (.cons (conv_ownK hsub hb.go (each_u1 _)) (.cons (Conv.refl (sub_ownK hsub hb.go) _) .nil))) ⟨rfl, rfl⟩
  · simp only [List.range_zero, List.map_nil, ownT_nil, ownH_nil]
    exact leK (Sub.refl _)
end Go.Abs
/- The laws of linked modules. -/
namespace Go.Abs
set_option linter.unusedSimpArgs false
set_option linter.unusedVariables false
set_option maxHeartbeats 4000000
open Go.Proofs Go.Nm Go.Wd
set_option linter.unusedVariables false
set_option maxRecDepth 8000
variable {H : Heap}
/-- A call and a return. -/
def tiny : Mod := ⟨⟨#[]⟩, [], [⟨#[102]⟩], [2281701376, 2415919104], [], [⟨0, 0, 0⟩]⟩
theorem tiny_ok : tiny.ok where
  co := fun x h => by simp [tiny] at h; omega
  da := fun s h => (List.not_mem_nil h).elim
  re := fun r h => by simp [tiny] at h; subst h; exact ⟨by decide, by decide, by decide⟩
  lex := (by decide : (0 : Nat) < 4611686018427387904)
  lim := (by decide : (1 : Nat) < 4611686018427387904)
  lco := (by decide : (2 : Nat) < 4611686018427387904)
  lda := (by decide : (0 : Nat) < 4611686018427387904)
  lre := (by decide : (1 : Nat) < 4611686018427387904)
theorem tiny_fit : tiny.fit ⟨0, 0, 0⟩ = true := by kernel_rfl
theorem tiny_lk : tiny.lk 80 96 [17] where
  kind := fun r h => by simp [tiny] at h; subst h; decide
  plac := fun r h => by simp [tiny] at h; subst h; decide
  fits := fun r h => by simp [tiny] at h; subst h; exact tiny_fit
  imp := fun r h _ => by simp [tiny] at h; subst h; decide
  val := fun r h => by simp [tiny] at h; subst h; decide
theorem tiny_img : tiny.img 80 96 [17] = [2281701393, 2415919104, 0, 0, 0, 0, 0, 0, 0, 0, 0, 0, 0, 0, 0, 0] := by kernel_rfl
theorem awakeL_c (H : Heap) : AC Tryd.prog 7 [] H (fun r H' => r = .s (.bool true) ∧ H' = H) := by
  refine AC.body Tryd.func7 rfl rfl (n := 49) (res := [.tmp 0]) rfl rfl (by simp) ?_
  simp only [ent]
  have I := fun H => image_c tiny_ok tiny_lk (by decide) (by decide) (by decide) (by decide) H
  rw [tiny_img, Mod.tv_def] at I
  simp only [List.map_cons, List.map_nil, u1_def, tiny, s1_def, relE_def, Int.cast_ofNat_Int, Int.natCast_zero] at I
  refine ARun.seq (ARun.region rfl ?_)
  refine wa (ARun.seq ?_)
  refine ARun.mid ⟨[(1, .fp [.s (.string ⟨#[]⟩), .vs 1 [], .vs 1 [[.s (.string ⟨#[102]⟩)]], .vs 1 [[.s (.int .u32 2281701376)], [.s (.int .u32 2415919104)]], .vs 1 [], .vs 3 [[.s (.int .u8 0), .s (.int .u16 0), .s (.int .u16 0)]]])], H⟩ ?_ fun k hk => ?_
  · (repeat' (first | refine wk ?_ | refine wk2 ?_ ?_ | with_reducible refine wkF fun _ _ _ => ?_ | with_reducible intro _ | refine Doing.fresh (oc_build1 ap36 (fun _ h => by cases h; rfl) rfl rfl (by decide) (by decide)) fun _ _ _ => ?_ | exact ag | fail))
    rename_i b hb hbn
    have hs : Sub H (upd H b (.cells [.s (.int .u32 17)])) := Sub.upd (Sub.refl _) hb
    refine Calling.eq (AC.drop (I H) hs (.cons (Conv.refl hs _) (.cons (Conv.refl hs _) (.cons (conv_rs (L := [[.s (.int .u32 17)]]) hs (upd_self _ _ _) hb (fun e h => by simp at h; rw [h]; rfl)) .nil)))) ?_
    (repeat' (first | refine wk ?_ | refine wk2 ?_ ?_ | with_reducible refine wkF fun _ _ _ => ?_ | with_reducible intro _ | exact ag | fail))
    refine ARun.drawB mixed [([], [0, 1, 2, 3, 4, 5, 6, 7, 8, 9, 10, 11, 12, 13, 14, 15, 16, 17, 18, 19, 20, 21, 22, 23, 24, 25, 26, 27, 28, 29, 30, 31, 32, 33], none)] (by kernel_rfl) (by rfl) ?_
    (repeat' (first | refine wk ?_ | refine wk2 ?_ ?_ | with_reducible refine wkF fun _ _ _ => ?_ | with_reducible intro _ | exact ag | fail))
    exact fin0
  · (repeat' (first | refine wk ?_ | refine wk2 ?_ ?_ | with_reducible refine wkF fun _ _ _ => ?_ | with_reducible intro _ | refine Doing.fresh (oc_build (n := 2) (es := [[.s (.int .u32 2281701376)], [.s (.int .u32 2415919104)]]) ap36 (fun _ h => by cases h; rfl) rfl rfl rfl (.cons rfl (.cons rfl .nil)) (by decide) (by decide) (by decide)) fun _ _ _ => ?_ | refine Doing.fresh (oc_build1 ap23 (fun _ h => by cases h; rfl) rfl rfl (by decide) (by decide)) fun _ _ _ => ?_ | refine Doing.fresh (oc_build1 ap43 (fun _ h => by cases h; rfl) rfl rfl (by decide) (by decide)) fun _ _ _ => ?_ | exact ag | fail))
    rename_i b1 h1 n1 b2 h2 n2 b3 h3 n3 b4 h4 n4
    have g1 := h1
    have g2 := Sub.gone (H := H) sb h2
    have g3 := Sub.gone (H := H) sb h3
    have g4 := Sub.gone (H := H) sb h4
    have hs : Sub H _ := Sub.upd (r := .cells [.s (.string ByteArray.empty), .nils, .rs b2 0 1 1, .rs b1 0 2 1, .nils, .rs b3 0 1 3]) (Sub.upd (r := .cells [.s (.int .u8 0), .s (.int .u16 0), .s (.int .u16 0)]) (Sub.upd (r := .cells [.s (.string ⟨#[102]⟩)]) (Sub.upd (r := .cells [[TV.s (.int .u32 2281701376)], [TV.s (.int .u32 2415919104)]].flatten) (Sub.refl H) g1) g2) g3) g4
    refine ARun.freeze hk.go hs ?_
    simp only [List.forall_mem_cons, List.not_mem_nil, false_implies, implies_true, and_true]
    refine ⟨_, rfl, conv_fp hs (by first | (refine wa ?_; rfl) | exact ag | fail) g4 (.cons (Conv.refl hs _) (.cons conv_nils (.cons (conv_rs (L := [[TV.s (.string ⟨#[102]⟩)]]) hs (by first | (refine wa ?_; rfl) | exact ag | fail) g2 ?_) (.cons (conv_rs (L := [[TV.s (.int .u32 2281701376)], [TV.s (.int .u32 2415919104)]]) hs (by first | (refine wa ?_; rfl) | exact ag | fail) g1 ?_) (.cons conv_nils (.cons (conv_rs (L := [[TV.s (.int .u8 0), .s (.int .u16 0), .s (.int .u16 0)]]) hs (by first | (refine wa ?_; rfl) | exact ag | fail) g3 ?_) .nil))))))⟩
    all_goals
      intro e he
      simp only [List.mem_cons, List.not_mem_nil, or_false] at he
      first | (rcases he with rfl | rfl <;> rfl) | (subst he; rfl)
end Go.Abs
/- The laws of linked modules: every word is linked. -/
namespace Go.Abs
set_option linter.unusedSimpArgs false
set_option linter.unusedVariables false
set_option maxHeartbeats 4000000
open Go.Proofs Go.Nm Go.Wd
set_option linter.unusedVariables false
set_option maxRecDepth 8000
variable {H : Heap}
def h1 (x : Nat) : List TV := [.s (.int .u16 x)]
theorem h1_def (x : Nat) : h1 x = [.s (.int .u16 x)] := rfl
/-- A module that may be loaded can be linked, if slots and places are small. -/
theorem good_lk {m : Mod} (h : m.good) (hn : m.num) {pc pd : Nat} {sl : List Nat} (h1 : pc < 60000) (h2 : pd < 60000) (hl : m.im.length ≤ sl.length) (hs : ∀ x ∈ sl, x < 2 ^ 20) : m.lk pc pd sl where
  kind := fun r hr => by have := h.kind r hr; unfold kindB at this; simp at this; omega
  plac := h.plac
  fits := h.fits
  imp := fun r hr hi => by
    have := h.thrs r hr
    unfold Mod.thr at this
    unfold impK at hi
    rw [if_pos hi] at this
    simp at this; omega
  val := fun r hr => by
    unfold val
    have := (hn.re r hr).2.2
    split
    · rw [List.getD_eq_getElem?_getD]
      cases e : sl[r.w]? with
      | none => decide
      | some x => exact hs x (List.mem_of_getElem? e)
    · split <;> omega
/-- A relocation that names this word, as the laws ask. -/
def askW (c : Bool) (a : Nat) (k : Bool) (r : Rlc) : Bool := k && (((r.a : Int) == (a : Int)) && (dataK r.k != c))
theorem ask_none {c : Bool} {a : Nat} {l : List Rlc} (h : l.any (askW c a true) = false) : l.find? (hitW c a) = none := by
  rw [List.find?_eq_none]
  intro x hx hh
  have := List.any_eq_false.1 h x hx
  unfold askW at this
  unfold hitW at hh
  simp only [Bool.and_eq_true] at hh
  rw [hh.1, hh.2.1] at this
  exact this rfl
theorem any_succ {α : Type} (p : α → Bool) {l : List α} {i : Nat} {x : α} (h : l[i]? = some x) : (l.take (i + 1)).any p = ((l.take i).any p || p x) := by
  rw [List.take_add_one, h]; simp
/-- Slots, as they are asked for. -/
def cut64 (sl : List Nat) (n : Nat) : List Nat := (sl.take n).map (· % 64)
theorem cut64_succ {sl : List Nat} {i x : Nat} (h : sl[i]? = some x) : cut64 sl (i + 1) = cut64 sl i ++ [x % 64] := by
  unfold cut64; rw [List.take_add_one, h]; simp
theorem bounds {m : Mod} (h : m.good) : upN m.co.length ≤ 32 ∧ upN m.da.length ≤ 8 ∧ 0 < upN m.co.length + upN m.da.length ∧ m.co.length ≤ 512 ∧ m.da.length ≤ 128 ∧ m.re.length ≤ 256 := by
  have h1 := h.lco
  have h2 := h.lda
  have h3 := h.co0
  unfold upN
  exact ⟨by omega, by omega, by omega, h1, h2, h.lre⟩
theorem linkOnly_c {G : Heap} (g : GH G) (hs : Sub G H) (m : Mod) (hm : m.num) (f : Nat) (hf : f < 256) (sl : List Nat) (hsl : ∀ x ∈ sl, x < 65536) : AC Tryd.prog 4 [m.tv, .s (.int .u8 f), .vs 1 (sl.map h1)] H (fun r H' => r = .s (.bool true) ∧ H' = H) := by
  refine AC.body Tryd.func4 rfl rfl (n := 159) (res := [.tmp 6]) rfl rfl (by simp) ?_
  simp only [ent]
  have S1 := fun H => rsize_c m H
  have W := later fun (K : Heap) => awakeL_c K
  have M1 := later fun (hm : m.ok) (K : Heap) (hs : Sub G K) => vCheck_c g hs m hm
  have hlt := later fun (h : decide ((2000 : Int) < m.size) = false) => little_of h
  have hfi := later fun (h : (m.chk != 0) = false) => good_iff.1 (chk_fine h)
  have hnum := later hm
  clear hm
  simp only [Mod.tv_def] at S1 M1 ⊢
  generalize m.size = sz at *
  generalize m.chk = c1 at *
  (repeat' (first | refine wk ?_ | refine wk2 ?_ ?_ | with_reducible refine wkF fun _ _ _ => ?_ | with_reducible intro _ | exact ag | fail))
  rename_i v hv hvn
  have hsv := later fun r => Sub.upd (r := r) hs (hs.none hv)
  cases q1 : decide ((2000 : Int) < sz) with
  | true =>
    (repeat' (first | refine wk ?_ | refine wk2 ?_ ?_ | with_reducible refine wkF fun _ _ _ => ?_ | with_reducible intro _ | refine Calling.eq (S1 _) ?_ | refine Calling.eq (W.go _) ?_ | exact ag | fail))
    exact fin0
  | false =>
    have hli := later (hlt.go q1)
    have hko := later (ok_of hnum.go hli.go)
    replace M1 := later (M1.go hko.go)
    cases q2 : (c1 != 0) with
    | true =>
      (repeat' (first | refine wk ?_ | refine wk2 ?_ ?_ | with_reducible refine wkF fun _ _ _ => ?_ | with_reducible intro _ | refine Calling.eq (S1 _) ?_ | refine Calling.eq (M1.go _ (hsv.go _)) ?_ | refine Calling.eq (W.go _) ?_ | exact ag | fail))
      exact fin0
    | false =>
      have hg := later (hfi.go q2)
      cases q3 : decide ((sl.length : Int) < m.im.length) with
      | true =>
        (repeat' (first | refine wk ?_ | refine wk2 ?_ ?_ | with_reducible refine wkF fun _ _ _ => ?_ | with_reducible intro _ | refine Calling.eq (S1 _) ?_ | refine Calling.eq (M1.go _ (hsv.go _)) ?_ | refine Calling.eq (W.go _) ?_ | exact ag | fail))
        exact fin0
      | false =>
        have him : m.im.length ≤ sl.length := by have := of_decide_eq_false q3; omega
        (repeat' (first | refine wk ?_ | refine wk2 ?_ ?_ | with_reducible refine wkF fun _ _ _ => ?_ | with_reducible intro _ | refine Calling.eq (S1 _) ?_ | refine Calling.eq (M1.go _ (hsv.go _)) ?_ | exact ag | fail))
        clear S1 M1 q1 q2 q3 hlt hfi
        replace him := later him
        have hbo := bounds hg.go
        obtain ⟨ba, bb, b0, l1, l2, l3⟩ := hbo
        refine ARun.midB ⟨[(1, .s (.int .u8 f)), (3, .s (.pointer (some ⟨v, 0, none⟩))), (7, .vs 1 ((cut64 sl m.im.length).map u1))], upd H v (.cells m.cells)⟩ ?_ fun k hk => ?_
        · have hc64 : ∀ x ∈ cut64 sl m.im.length, x < 2 ^ 20 := fun x hx => by
            obtain ⟨y, _, rfl⟩ := List.mem_map.1 hx; omega
          have hc64l : m.im.length ≤ (cut64 sl m.im.length).length := by unfold cut64; have := him.go; simp; omega
          generalize cut64 sl m.im.length = L at *
          have O := fun H => of_cl hko.go H
          have wf : IntKind.i64.wrap (f : Int) = f := wi64 (by omega) (by omega)
          by_cases hfit : f + (upN m.co.length + upN m.da.length) ≤ 256
          · have A := fun H => at_ok (f := f) (by omega) (by omega) b0 (by omega) hfit H
            have lk := good_lk hg.go hnum.go (pc := 80 + 16 * f) (pd := 80 + 16 * (f + upN m.co.length)) (sl := L) (by omega) (by omega) hc64l hc64
            have I := fun H => image_c hko.go lk l1 l2 l3 hg.go.co0 H
            have N := fun H => wordsL_c (a := upN m.co.length) (b := upN m.da.length) (by omega) (by omega) b0 H
            have hil : (m.img (80 + 16 * f) (80 + 16 * (f + upN m.co.length)) L).length = 16 * (upN m.co.length + upN m.da.length) := by unfold Mod.img; simp
            have hig : ∀ i, i < (m.img (80 + 16 * f) (80 + 16 * (f + upN m.co.length)) L).length → (m.img (80 + 16 * f) (80 + 16 * (f + upN m.co.length)) L)[i]? = some (m.raw i + m.inc (80 + 16 * f) (80 + 16 * (f + upN m.co.length)) L i) := fun i hi => by
              unfold Mod.img at hi ⊢
              rw [List.getElem?_map, List.getElem?_range (by simpa using hi)]; rfl
            clear hc64 hc64l lk hfit him
            replace hig := later hig
            simp only [Mod.tv_def, Mod.cells] at O A I N ⊢
            generalize m.img (80 + 16 * f) (80 + 16 * (f + upN m.co.length)) L = img at *
            generalize 80 + 16 * f = pc at *
            generalize 80 + 16 * (f + upN m.co.length) = pd at *
            have hN : 16 * (upN m.co.length + upN m.da.length) < 1000 := by omega
            generalize upN m.co.length = a at *
            generalize upN m.da.length = b at *
            have hln : (((img.length : Nat) : Int) != ((16 * (a + b) : Nat) : Int)) = false := by rw [hil]; simp
            clear ba bb b0 l1 l2 l3
            (repeat' (first | refine wk ?_ | refine wk2 ?_ ?_ | with_reducible refine wkF fun _ _ _ => ?_ | with_reducible intro _ | refine Calling.eq (O _) ?_ | refine Calling.eq (A _) ?_ | refine Calling.eq (I _) ?_ | refine Calling.eq (N _) ?_ | exact ag | fail))
            clear O A I N hln
            refine ARun.rounds (fun i : Nat => ⟨[(3, .s (.pointer (some ⟨v, 0, none⟩))), (11, .vs 1 (img.map u1)), (13, .s (.int .i64 i))], upd H v (.cells m.cells)⟩) (fun i => img.length - i) (fun i => i ≤ img.length) ?_ 0 (by omega) ?_
            · rintro i hi next
              simp only [Mod.cells]
              by_cases hlt : i < img.length
              · have h1 : (i : Int) < img.length := by omega
                have h2 : (0 : Int) ≤ i := by omega
                have hw := w64s (i := i) (by omega)
                have SP := fun H => spotL_c hko.go (i := i) (by omega) H
                have RW := later fun H => raw_c hko.go (i := i) (by omega) H
                have hx := hig.go i hlt
                have hinc : (m.spot i).2.2 = true → m.re.any (askW (m.spot i).1 (m.spot i).2.1 (m.spot i).2.2) = false → m.inc pc pd L i = 0 := fun hk h => by
                  unfold Mod.inc; rw [hk] at h ⊢; rw [ask_none h]; rfl
                have hin0 : (m.spot i).2.2 = false → m.inc pc pd L i = 0 := fun hk => by unfold Mod.inc; rw [hk]; rfl
                have nx := later (next.go (i + 1) (by omega) (by omega))
                simp only [Mod.tv_def] at SP RW
                generalize m.inc pc pd L i = inc at *
                generalize m.raw i = raw at *
                generalize m.spot i = p at *
                obtain ⟨c, a, ok⟩ := p
                simp only [] at SP hinc hin0 ⊢
                have hx1 := vget u1 hx
                rw [u1_def] at hx1
                clear hig hx next hil hN
                (repeat' (first | refine wk ?_ | refine wk2 ?_ ?_ | with_reducible refine wkF fun _ _ _ => ?_ | with_reducible intro _ | refine Calling.eq (SP _) ?_ | exact ag | fail))
                clear SP
                refine ARun.midB ⟨[(3, .s (.pointer (some ⟨v, 0, none⟩))), (11, .vs 1 (img.map u1)), (13, .s (.int .i64 i)), (17, .s (.bool (m.re.any (askW c a ok))))], upd H v (.cells m.cells)⟩ ?_ fun k hk => ?_
                · replace nx := nx.go
                  simp only [Mod.cells] at nx ⊢
                  replace nx := later nx
                  cases hn : m.re.any (askW c a ok) with
                  | true =>
                    clear hinc hin0
                    (repeat' (first | refine wk ?_ | refine wk2 ?_ ?_ | with_reducible refine wkF fun _ _ _ => ?_ | with_reducible intro _ | exact ag | fail))
                    refine ARun.drawB mixed [([], [0, 1, 2, 3, 4, 5, 6, 7, 8], some 9), ([0, 1, 3, 4, 5, 6], [10, 11], none)] (by kernel_rfl) (by rfl) ?_
                    (repeat' (first | refine wk ?_ | refine wk2 ?_ ?_ | with_reducible refine wkF fun _ _ _ => ?_ | with_reducible intro _ | exact ag | fail))
                    exact ARun.weaken nx.go (leK (Sub.refl _))
                  | false =>
                    have h0 : inc = 0 := by
                      cases ok with
                      | true => exact hinc rfl hn
                      | false => exact hin0 rfl
                    subst h0
                    rw [Nat.add_zero] at hx1
                    replace RW := RW.go
                    have hbe : (((raw : Nat) : Int) != (raw : Int)) = false := by simp
                    clear hinc hin0
                    (repeat' (first | refine wk ?_ | refine wk2 ?_ ?_ | with_reducible refine wkF fun _ _ _ => ?_ | with_reducible intro _ | exact ag | fail))
                    refine ARun.drawB mixed [([], [0, 1, 2, 3, 4, 5, 6, 7, 8], some 9), ([0, 1, 3, 4, 5, 6], [10, 11], none)] (by kernel_rfl) (by rfl) ?_
                    (repeat' (first | refine wk ?_ | refine wk2 ?_ ?_ | with_reducible refine wkF fun _ _ _ => ?_ | with_reducible intro _ | refine Calling.eq (RW _) ?_ | exact ag | fail))
                    exact ARun.weaken nx.go (leK (Sub.refl _))
                · clear nx hinc hin0 RW hx1 hw
                  refine ARun.rounds (fun j : Nat => ⟨[(3, .s (.pointer (some ⟨v, 0, none⟩))), (11, .vs 1 (img.map u1)), (13, .s (.int .i64 i)), (14, .s (.bool c)), (15, .s (.int .i64 a)), (16, .s (.bool ok)), (17, .s (.bool ((m.re.take j).any (askW c a ok)))), (18, .s (.int .i64 j))], upd H v (.cells m.cells)⟩) (fun j => m.re.length - j) (fun j => j ≤ m.re.length) ?_ 0 (by omega) ?_
                  · rintro j hj next
                    simp only [Mod.cells]
                    have hlre := later hko.go.lre
                    by_cases hlt : j < m.re.length
                    · have g1 : (j : Int) < m.re.length := by omega
                      have g2 : (0 : Int) ≤ j := by omega
                      have hw := w64s (i := j) (by have := hlre.go; omega)
                      obtain ⟨x, hx⟩ := at_ hlt
                      have hx1 := vget relE hx
                      rw [relE_def] at hx1
                      have e16 := u16_i64 ((hko.go.re x (List.mem_of_getElem? hx)).2.1)
                      have nx := next.go (j + 1) (by omega) (by omega)
                      rw [any_succ _ hx] at nx
                      unfold askW at nx
                      have hd := k456 x.k
                      clear next hx
                      have hd2 : (dataK x.k = true ∧ (((x.k : Int) == 4) = true ∨ (((x.k : Int) == 4) = false ∧ ((x.k : Int) == 5) = true) ∨ (((x.k : Int) == 4) = false ∧ ((x.k : Int) == 5) = false ∧ ((x.k : Int) == 6) = true))) ∨ (dataK x.k = false ∧ ((x.k : Int) == 4) = false ∧ ((x.k : Int) == 5) = false ∧ ((x.k : Int) == 6) = false) := by
                        cases q : dataK x.k with
                        | true => exact .inl ⟨rfl, hd.1 q⟩
                        | false => exact .inr ⟨rfl, hd.2 q⟩
                      clear hd
                      change ARun _ _ _ _ ⟨[_, _, _, _, _, _, (17, .s (.bool ((m.re.take j).any (askW c a ok) || (ok && (((x.a : Int) == (a : Int)) && (dataK x.k != c)))))), _], _⟩ at nx
                      generalize (m.re.take j).any (askW c a ok) = nb at *
                      generalize hea : ((x.a : Int) == (a : Int)) = ea at *
                      simp only [Mod.cells] at nx
                      rcases hd2 with ⟨hd, hd2 | ⟨hd2, hd3⟩ | ⟨hd2, hd3, hd4⟩⟩ | ⟨hd, hd2, hd3, hd4⟩
                      all_goals
                        rw [hd] at nx
                        clear hd
                        replace nx := later nx
                        cases nb
                        · cases ok
                          · (repeat' (first | refine wk ?_ | refine wk2 ?_ ?_ | with_reducible refine wkF fun _ _ _ => ?_ | with_reducible intro _ | exact ag | fail))
                            exact ARun.weaken nx.go (leK (Sub.refl _))
                          · cases ea
                            · (repeat' (first | refine wk ?_ | refine wk2 ?_ ?_ | with_reducible refine wkF fun _ _ _ => ?_ | with_reducible intro _ | exact ag | fail))
                              exact ARun.weaken nx.go (leK (Sub.refl _))
                            · (repeat' (first | refine wk ?_ | refine wk2 ?_ ?_ | with_reducible refine wkF fun _ _ _ => ?_ | with_reducible intro _ | exact ag | fail))
                              exact ARun.weaken nx.go (leK (Sub.refl _))
                        · (repeat' (first | refine wk ?_ | refine wk2 ?_ ?_ | with_reducible refine wkF fun _ _ _ => ?_ | with_reducible intro _ | exact ag | fail))
                          exact ARun.weaken nx.go (leK (Sub.refl _))
                    · have g1 : decide ((j : Int) < m.re.length) = false := by simp; omega
                      obtain rfl : j = m.re.length := by omega
                      clear next
                      rw [List.take_length]
                      (repeat' (first | refine wk ?_ | refine wk2 ?_ ?_ | with_reducible refine wkF fun _ _ _ => ?_ | with_reducible intro _ | exact ag | fail))
                      exact ARun.weaken hk.go (leK (Sub.refl _))
                  · simp only [List.take_zero, List.any_nil, Mod.cells]
                    exact leK (Sub.refl _)
              · have h1 : decide ((i : Int) < img.length) = false := by simp; omega
                obtain rfl : i = img.length := by omega
                clear next hig hil hN hi hlt
                (repeat' (first | refine wk ?_ | refine wk2 ?_ ?_ | with_reducible refine wkF fun _ _ _ => ?_ | with_reducible intro _ | refine Calling.eq (W.go _) ?_ | exact ag | fail))
                exact fin0
            · simp only [Mod.cells]
              exact leK sb
          · have A := fun H => at_no (f := f) (by omega) (by omega) b0 (by omega) (by omega) H
            simp only [Mod.tv_def, Mod.cells] at O ⊢
            generalize upN m.co.length = a at *
            generalize upN m.da.length = b at *
            clear hfit ba bb b0 l1 l2 l3 him
            (repeat' (first | refine wk ?_ | refine wk2 ?_ ?_ | with_reducible refine wkF fun _ _ _ => ?_ | with_reducible intro _ | refine Calling.eq (O _) ?_ | refine Calling.eq (A _) ?_ | refine Calling.eq (W.go _) ?_ | exact ag | fail))
            exact fin0
        · have hs64 : ∀ i, cut64 sl i = (sl.take i).map (· % 64) := fun i => rfl
          have him' := him.go
          have hlim := hg.go.lim
          clear hg hko hli hnum hsv ba bb b0 l1 l2 l3 W g hs
          generalize hK : upd H v _ = K at *
          have e3 : K v = some (.cells [.s (.string m.nm), .vs 1 (m.ex.map s1), .vs 1 (m.im.map s1), .vs 1 (m.co.map u1), .vs 1 (m.da.map u1), .vs 3 (m.re.map relE)]) := by rw [← hK]; exact upd_self _ _ _
          have hsub0 : Sub K (upd H v (.cells [.s (.string m.nm), .vs 1 (m.ex.map s1), .vs 1 (m.im.map s1), .vs 1 (m.co.map u1), .vs 1 (m.da.map u1), .vs 3 (m.re.map relE)])) := by rw [← hK]; exact Sub.refl _
          clear hK hv hvn
          refine ARun.rounds (fun st : Nat × Nat => ⟨[(1, .s (.int .u8 f)), (2, .vs 1 (sl.map h1)), (3, .s (.pointer (some ⟨v, 0, none⟩))), (7, ownT st.2 1 ((cut64 sl st.1).map u1)), (8, .s (.int .i64 (st.1 : Nat)))], ownH K st.2 ((cut64 sl st.1).map u1)⟩) (fun st => m.im.length - st.1)
            (fun st => st.1 ≤ m.im.length ∧ ((cut64 sl st.1).map u1 ≠ [] → K st.2 = none)) ?_ (0, 0) ⟨by simp, fun h => absurd rfl h⟩ ?_
          · rintro ⟨i, b⟩ ⟨hi, hb⟩ next
            simp only [] at hi hb ⊢
            have hlen : ((cut64 sl i).map u1).length = i := by rw [hs64]; simp; omega
            have f3 := ownH_keep hb e3
            by_cases hlt : i < m.im.length
            · have q1 : decide ((i : Int) < m.im.length) = true := by simp; omega
              obtain ⟨x, hx⟩ := at_ (l := sl) (i := i) (by omega)
              have hnx : (cut64 sl (i + 1)).map u1 = (cut64 sl i).map u1 ++ [u1 (x % 64)] := by rw [cut64_succ hx, List.map_append]; rfl
              have hx1 := vget h1 hx
              rw [h1_def] at hx1
              have hw := w64s (i := i) (by omega)
              have q2 : (0 : Int) ≤ i := by omega
              have hrem : IntKind.u32.wrap ((x : Int).tmod 64) = ((x % 64 : Nat) : Int) := by rw [Int.tmod_eq_emod_of_nonneg (by omega), IntKind.wrap_u32]; omega
              replace hb := later hb
              replace hs64 := later hs64
              clear him' hx
              generalize x % 64 = y at *
              (repeat' (first | refine wk ?_ | refine wk2 ?_ ?_ | with_reducible refine wkF fun _ _ _ => ?_ | with_reducible intro _ | refine Doing.fresh (oc_build1 ap36 (fun _ h => by cases h; rfl) rfl rfl (by decide) (by decide)) fun _ _ _ => ?_ | refine Doing.fresh (oc_append1 (e := u1 y) ap36 us36 (each_u1 _) rfl rfl hb.go (by assumption) (by rw [hlen]; omega) (by rw [hlen]; omega)) fun _ _ _ => ?_ | exact ag | fail))
              rename_i b' hb' _
              refine ARun.weaken (next.go (i + 1, b') ⟨by simp only []; omega, fun _ => hb'⟩ (by simp only []; omega)) ?_
              simp only [hnx]
              exact leK (Sub.refl _)
            · have q1 : decide ((i : Int) < m.im.length) = false := by simp; omega
              obtain rfl : i = m.im.length := by omega
              clear next
              replace hb := later hb
              replace hs64 := later hs64
              (repeat' (first | refine wk ?_ | refine wk2 ?_ ?_ | with_reducible refine wkF fun _ _ _ => ?_ | with_reducible intro _ | exact ag | fail))
              refine ARun.freeze hk.go (sub_ownK (Sub.refl K) hb.go) ?_
              simp only [List.forall_mem_cons, List.not_mem_nil, false_implies, implies_true, and_true]
              have hsK := sub_ownK (Sub.refl K) hb.go
              exact ⟨⟨_, ag, Conv.refl hsK _⟩, ⟨_, ag, Conv.refl hsK _⟩, ⟨_, ag, conv_ownK (Sub.refl K) hb.go (each_u1 _)⟩⟩
          · have e0 : cut64 sl 0 = [] := rfl
            simp only [e0, List.map_nil, ownT_nil, ownH_nil]
            exact leK hsub0
end Go.Abs
/- The laws of linked modules: a module at another place. -/
namespace Go.Abs
set_option linter.unusedSimpArgs false
set_option linter.unusedVariables false
set_option maxHeartbeats 4000000
open Go.Proofs Go.Nm Go.Wd
set_option linter.unusedVariables false
set_option maxRecDepth 8000
variable {H : Heap}
theorem nodup_inj {α β : Type} {f : α → β} : ∀ {l : List α}, (l.map f).Nodup → ∀ {x y : α}, x ∈ l → y ∈ l → f x = f y → x = y
  | [], _, x, y, hx, _, _ => by cases hx
  | z :: l, h, x, y, hx, hy, e => by
    rw [List.map_cons, List.nodup_cons] at h
    rcases List.mem_cons.1 hx with ex | hx'
    · rcases List.mem_cons.1 hy with ey | hy'
      · rw [ex, ey]
      · exact absurd (show f z ∈ l.map f by rw [← ex, e]; exact List.mem_map_of_mem hy') h.1
    · rcases List.mem_cons.1 hy with ey | hy'
      · exact absurd (show f z ∈ l.map f by rw [← ey, ← e]; exact List.mem_map_of_mem hx') h.1
      · exact nodup_inj h.2 hx' hy' e
theorem any_one {α : Type} {q : α → Bool} {l : List α} {r : α} (hr : r ∈ l) (h : ∀ x ∈ l, q x = true → x = r) : l.any q = q r := by
  rw [Bool.eq_iff_iff, List.any_eq_true]
  exact ⟨fun ⟨x, hx, hq⟩ => h x hx hq ▸ hq, fun hq => ⟨r, hr, hq⟩⟩
theorem ask_hit {m : Mod} (h : m.good) {c : Bool} {a : Nat} {r : Rlc} (hr : r ∈ m.re) : askW c a true r = hitW c a r := by
  unfold askW hitW
  have : decide ((r.k : Int) ≤ 7) = true := by
    have := h.kind r hr; unfold kindB at this; simp at this ⊢; omega
  rw [this]; simp
theorem ask_one {m : Mod} (h : m.good) {c : Bool} {a : Nat} {k : Bool} {x y : Rlc} (hx : x ∈ m.re) (hy : y ∈ m.re) (h1 : askW c a k x = true) (h2 : askW c a k y = true) : x = y := by
  refine nodup_inj h.spot hx hy ?_
  unfold askW at h1 h2
  simp only [Bool.and_eq_true] at h1 h2
  have e1 := beq_iff_eq.1 h1.2.1
  have e2 := beq_iff_eq.1 h2.2.1
  have e3 := h1.2.2
  have e4 := h2.2.2
  refine Prod.ext ?_ (by show x.a = y.a; omega)
  show (!dataK x.k) = !dataK y.k
  revert e3 e4
  cases dataK x.k <;> cases dataK y.k <;> cases c <;> simp
/-- Which relocation names a word: none, or this one alone. -/
theorem find_ask {m : Mod} (h : m.good) (c : Bool) (a : Nat) : (m.re.find? (hitW c a) = none ∧ ∀ r ∈ m.re, askW c a true r = false) ∨ ∃ r ∈ m.re, m.re.find? (hitW c a) = some r ∧ askW c a true r = true := by
  cases e : m.re.find? (hitW c a) with
  | none => exact .inl ⟨rfl, fun r hr => by rw [ask_hit h hr]; simpa using List.find?_eq_none.1 e r hr⟩
  | some r => exact .inr ⟨r, List.mem_of_find?_eq_some e, rfl, by rw [ask_hit h (List.mem_of_find?_eq_some e)]; exact List.find?_some e⟩
def movW (c : Bool) (a : Nat) (k : Bool) (r : Rlc) : Bool := k && (((r.a : Int) == (a : Int)) && ((dataK r.k != c) && !impK r))
theorem mov_ask {c : Bool} {a : Nat} {k : Bool} {r : Rlc} : movW c a k r = (askW c a k r && !impK r) := by unfold movW askW; simp [Bool.and_assoc]
theorem move_eq {m : Mod} (h : m.good) (hn : m.num) {pc pd pc' pd' : Nat} {sl : List Nat} (h1 : pc < 60000) (h2 : pd < 60000) (h3 : pc' < 60000) (h4 : pd' < 60000) (hd : (pd' : Int) - pd = pc' - pc) (i : Nat) :
    IntKind.u32.wrap (((m.raw i + m.inc pc' pd' sl i : Nat) : Int) - ((m.raw i + m.inc pc pd sl i : Nat) : Int)) = if m.re.any (movW (m.spot i).1 (m.spot i).2.1 (m.spot i).2.2) then IntKind.u32.wrap ((pc' : Int) - pc) else 0 := by
  unfold Mod.inc
  generalize m.spot i = p
  obtain ⟨c, a, k⟩ := p
  simp only []
  cases k with
  | false =>
    rw [if_neg (by decide), if_neg (by decide), if_neg (by
      have : m.re.any (movW c a false) = false := List.any_eq_false.2 fun r _ => by unfold movW; simp
      rw [this]; decide)]
    rw [IntKind.wrap_u32]; omega
  | true =>
    rw [if_pos rfl, if_pos rfl]
    rcases find_ask h c a with ⟨e, hno⟩ | ⟨r, hr, e, hq⟩
    · rw [e, if_neg (by
        have : m.re.any (movW c a true) = false := List.any_eq_false.2 fun r hr => by rw [mov_ask, hno r hr]; simp
        rw [this]; decide)]
      rw [IntKind.wrap_u32]; simp only []; omega
    · rw [e, any_one (r := r) hr (fun x hx hm => by rw [mov_ask] at hm; exact ask_one h hx hr (Bool.and_eq_true_iff.1 hm).1 hq), mov_ask, hq]
      simp only [Bool.true_and]
      have hw := (hn.re r hr).2.2
      unfold val
      cases hi : impK r with
      | true => simp only [if_true, Bool.not_true, Bool.false_eq_true, if_false]; rw [IntKind.wrap_u32]; omega
      | false =>
        simp only [if_true, Bool.not_false, Bool.false_eq_true, if_false]
        split
        · rw [IntKind.wrap_u32, IntKind.wrap_u32]; omega
        · rw [IntKind.wrap_u32, IntKind.wrap_u32]; omega
/-- The eight kinds, as the laws ask for them. -/
theorem k6 (r : Rlc) : (dataK r.k = true ∧ impK r = true ∧ ((r.k : Int) == 4) = true) ∨ (dataK r.k = true ∧ impK r = false ∧ ((r.k : Int) == 4) = false ∧ ((r.k : Int) == 5) = true ∧ ((r.k : Int) == 1) = false ∧ ((r.k : Int) == 0) = false) ∨
    (dataK r.k = true ∧ impK r = false ∧ ((r.k : Int) == 4) = false ∧ ((r.k : Int) == 5) = false ∧ ((r.k : Int) == 6) = true ∧ ((r.k : Int) == 1) = false ∧ ((r.k : Int) == 0) = false) ∨ (dataK r.k = false ∧ impK r = true ∧ ((r.k : Int) == 4) = false ∧ ((r.k : Int) == 5) = false ∧ ((r.k : Int) == 6) = false ∧ ((r.k : Int) == 1) = true) ∨
    (dataK r.k = false ∧ impK r = true ∧ ((r.k : Int) == 4) = false ∧ ((r.k : Int) == 5) = false ∧ ((r.k : Int) == 6) = false ∧ ((r.k : Int) == 1) = false ∧ ((r.k : Int) == 0) = true) ∨ (dataK r.k = false ∧ impK r = false ∧ ((r.k : Int) == 4) = false ∧ ((r.k : Int) == 5) = false ∧ ((r.k : Int) == 6) = false ∧ ((r.k : Int) == 1) = false ∧ ((r.k : Int) == 0) = false) := by
  unfold dataK impK
  have : ((r.k : Int) = 4) ∨ ((r.k : Int) = 5) ∨ ((r.k : Int) = 6) ∨ ((r.k : Int) = 1) ∨ ((r.k : Int) = 0) ∨ ((r.k : Int) ≠ 4 ∧ (r.k : Int) ≠ 5 ∧ (r.k : Int) ≠ 6 ∧ (r.k : Int) ≠ 1 ∧ (r.k : Int) ≠ 0) := by omega
  rcases this with h | h | h | h | h | ⟨a, b, c, d, e⟩
  · rw [h]; exact .inl ⟨rfl, rfl, rfl⟩
  · rw [h]; exact .inr (.inl ⟨rfl, rfl, rfl, rfl, rfl, rfl⟩)
  · rw [h]; exact .inr (.inr (.inl ⟨rfl, rfl, rfl, rfl, rfl, rfl, rfl⟩))
  · rw [h]; exact .inr (.inr (.inr (.inl ⟨rfl, rfl, rfl, rfl, rfl, rfl⟩)))
  · rw [h]; exact .inr (.inr (.inr (.inr (.inl ⟨rfl, rfl, rfl, rfl, rfl, rfl, rfl⟩))))
  · rw [beq_eq_false_iff_ne.2 a, beq_eq_false_iff_ne.2 b, beq_eq_false_iff_ne.2 c, beq_eq_false_iff_ne.2 d, beq_eq_false_iff_ne.2 e]
    exact .inr (.inr (.inr (.inr (.inr ⟨rfl, rfl, rfl, rfl, rfl, rfl, rfl⟩))))
theorem replicate_u1 (n : Nat) : List.replicate n [TV.s (.int .u32 0)] = (List.replicate n 0).map u1 := by rw [List.map_replicate]; rfl
theorem linkMoves_c {G : Heap} (g : GH G) (hs : Sub G H) (m : Mod) (hm : m.num) (f f' : Nat) (hf : f < 256) (hf' : f' < 256) : AC Tryd.prog 5 [m.tv, .s (.int .u8 f), .s (.int .u8 f')] H (fun r H' => r = .s (.bool true) ∧ H' = H) := by
  refine AC.body Tryd.func5 rfl rfl (n := 175) (res := [.tmp 6]) rfl rfl (by simp) ?_
  simp only [ent]
  have S1 := fun H => rsize_c m H
  have W := later fun (K : Heap) => awakeL_c K
  have M1 := later fun (hm : m.ok) (K : Heap) (hs : Sub G K) => vCheck_c g hs m hm
  have hlt := later fun (h : decide ((2000 : Int) < m.size) = false) => little_of h
  have hfi := later fun (h : (m.chk != 0) = false) => good_iff.1 (chk_fine h)
  have hnum := later hm
  clear hm
  simp only [Mod.tv_def] at S1 M1 ⊢
  generalize m.size = sz at *
  generalize m.chk = c1 at *
  (repeat' (first | refine wk ?_ | refine wk2 ?_ ?_ | with_reducible refine wkF fun _ _ _ => ?_ | with_reducible intro _ | exact ag | fail))
  rename_i v hv hvn
  have hsv := later fun r => Sub.upd (r := r) hs (hs.none hv)
  cases q1 : decide ((2000 : Int) < sz) with
  | true =>
    (repeat' (first | refine wk ?_ | refine wk2 ?_ ?_ | with_reducible refine wkF fun _ _ _ => ?_ | with_reducible intro _ | refine Calling.eq (S1 _) ?_ | refine Calling.eq (W.go _) ?_ | exact ag | fail))
    exact fin0
  | false =>
    have hli := later (hlt.go q1)
    have hko := later (ok_of hnum.go hli.go)
    replace M1 := later (M1.go hko.go)
    cases q2 : (c1 != 0) with
    | true =>
      (repeat' (first | refine wk ?_ | refine wk2 ?_ ?_ | with_reducible refine wkF fun _ _ _ => ?_ | with_reducible intro _ | refine Calling.eq (S1 _) ?_ | refine Calling.eq (M1.go _ (hsv.go _)) ?_ | refine Calling.eq (W.go _) ?_ | exact ag | fail))
      exact fin0
    | false =>
      have hg := later (hfi.go q2)
      (repeat' (first | refine wk ?_ | refine wk2 ?_ ?_ | with_reducible refine wkF fun _ _ _ => ?_ | with_reducible intro _ | refine Calling.eq (S1 _) ?_ | refine Calling.eq (M1.go _ (hsv.go _)) ?_ | exact ag | fail))
      clear S1 M1 q1 q2 hlt hfi
      refine Doing.fresh (oc_makeSlice ap36 us36 zr49 rfl (by decide) (by have := hli.go.im; omega) (by have := hli.go.im; omega)) fun b hb hbn => ?_
      simp only [replicate_u1]
      have hbo := bounds hg.go
      obtain ⟨ba, bb, b0, l1, l2, l3⟩ := hbo
      refine ARun.freeze (E' := [(1, .s (.int .u8 f)), (2, .s (.int .u8 f')), (3, .s (.pointer (some ⟨v, 0, none⟩))), (7, .vs 1 ((List.replicate m.im.length 0).map u1))]) (H' := upd H v (.cells m.cells)) ?_ (sub_ownK (Sub.refl _) fun _ => hb) ?_
      · clear hb hbn
        have hc64 : ∀ x ∈ List.replicate m.im.length 0, x < 2 ^ 20 := fun x hx => by
          rw [(List.mem_replicate.1 hx).2]; decide
        have hc64l : m.im.length ≤ (List.replicate m.im.length 0).length := by simp
        generalize List.replicate m.im.length 0 = L at *
        have O := fun H => of_cl hko.go H
        have wf : IntKind.i64.wrap (f : Int) = f := wi64 (by omega) (by omega)
        have wf' : IntKind.i64.wrap (f' : Int) = f' := wi64 (by omega) (by omega)
        by_cases hfit : f + (upN m.co.length + upN m.da.length) ≤ 256
        · by_cases hfit' : f' + (upN m.co.length + upN m.da.length) ≤ 256
          · have A := fun H => at_ok (f := f) (by omega) (by omega) b0 (by omega) hfit H
            have A' := fun H => at_ok (f := f') (by omega) (by omega) b0 (by omega) hfit' H
            have I := fun H => image_c hko.go (good_lk hg.go hnum.go (pc := 80 + 16 * f) (pd := 80 + 16 * (f + upN m.co.length)) (sl := L) (by omega) (by omega) hc64l hc64) l1 l2 l3 hg.go.co0 H
            have I' := fun H => image_c hko.go (good_lk hg.go hnum.go (pc := 80 + 16 * f') (pd := 80 + 16 * (f' + upN m.co.length)) (sl := L) (by omega) (by omega) hc64l hc64) l1 l2 l3 hg.go.co0 H
            have mv := fun i => move_eq hg.go hnum.go (pc := 80 + 16 * f) (pd := 80 + 16 * (f + upN m.co.length)) (pc' := 80 + 16 * f') (pd' := 80 + 16 * (f' + upN m.co.length)) (sl := L) (by omega) (by omega) (by omega) (by omega) (by omega) i
            have hil : (m.img (80 + 16 * f) (80 + 16 * (f + upN m.co.length)) L).length = 16 * (upN m.co.length + upN m.da.length) := by unfold Mod.img; simp
            have hil' : (m.img (80 + 16 * f') (80 + 16 * (f' + upN m.co.length)) L).length = 16 * (upN m.co.length + upN m.da.length) := by unfold Mod.img; simp
            have hig : ∀ pc pd i, i < 16 * (upN m.co.length + upN m.da.length) → (m.img pc pd L)[i]? = some (m.raw i + m.inc pc pd L i) := fun pc pd i hi => by
              unfold Mod.img
              rw [List.getElem?_map, List.getElem?_range hi]; rfl
            have hig1 := later (hig (80 + 16 * f) (80 + 16 * (f + upN m.co.length)))
            have hig2 := later (hig (80 + 16 * f') (80 + 16 * (f' + upN m.co.length)))
            clear hc64 hc64l hfit hfit' hig
            replace mv := later mv
            simp only [Mod.tv_def, Mod.cells] at O A A' I I' ⊢
            generalize m.img (80 + 16 * f) (80 + 16 * (f + upN m.co.length)) L = img at *
            generalize m.img (80 + 16 * f') (80 + 16 * (f' + upN m.co.length)) L = img' at *
            generalize 80 + 16 * (f + upN m.co.length) = pd at *
            generalize 80 + 16 * (f' + upN m.co.length) = pd' at *
            generalize 80 + 16 * f = pc at *
            generalize 80 + 16 * f' = pc' at *
            have hN : 16 * (upN m.co.length + upN m.da.length) < 1000 := by omega
            generalize upN m.co.length = a at *
            generalize upN m.da.length = b at *
            have hln : (((img.length : Nat) : Int) != ((img'.length : Nat) : Int)) = false := by rw [hil, hil']; simp
            rw [← hil] at hig1 hig2 hN
            clear ba bb b0 l1 l2 l3
            replace hil := later hil
            replace hil' := later hil'
            (repeat' (first | refine wk ?_ | refine wk2 ?_ ?_ | with_reducible refine wkF fun _ _ _ => ?_ | with_reducible intro _ | refine Calling.eq (O _) ?_ | refine Calling.eq (A _) ?_ | refine Calling.eq (A' _) ?_ | refine Calling.eq (I _) ?_ | refine Calling.eq (I' _) ?_ | exact ag | fail))
            clear O A A' I I' hln
            generalize IntKind.u32.wrap ((pc' : Int) - pc) = dl at *
            refine ARun.rounds (fun i : Nat => ⟨[(3, .s (.pointer (some ⟨v, 0, none⟩))), (12, .vs 1 (img.map u1)), (14, .vs 1 (img'.map u1)), (16, .s (.int .u32 dl)), (17, .s (.int .i64 i))], upd H v (.cells m.cells)⟩) (fun i => img.length - i) (fun i => i ≤ img.length) ?_ 0 (by omega) ?_
            · rintro i hi next
              simp only [Mod.cells]
              by_cases hlt : i < img.length
              · have h1 : (i : Int) < img.length := by omega
                have h2 : (0 : Int) ≤ i := by omega
                have hw := w64s (i := i) (by omega)
                have SP := fun H => spotL_c hko.go (i := i) (by omega) H
                have hx := hig1.go i hlt
                have hx' := hig2.go i hlt
                have hm := mv.go i
                have nx := later (next.go (i + 1) (by omega) (by omega))
                simp only [Mod.tv_def] at SP
                generalize m.raw i + m.inc pc pd L i = X at *
                generalize m.raw i + m.inc pc' pd' L i = Y at *
                generalize m.spot i = p at *
                obtain ⟨c, a, ok⟩ := p
                simp only [] at SP hm ⊢
                have hx1 := vget u1 hx
                have hx2 := vget u1 hx'
                rw [u1_def] at hx1 hx2
                clear hig1 hig2 hx hx' next hil hN mv
                (repeat' (first | refine wk ?_ | refine wk2 ?_ ?_ | with_reducible refine wkF fun _ _ _ => ?_ | with_reducible intro _ | refine Calling.eq (SP _) ?_ | exact ag | fail))
                clear SP
                refine ARun.midB ⟨[(3, .s (.pointer (some ⟨v, 0, none⟩))), (12, .vs 1 (img.map u1)), (14, .vs 1 (img'.map u1)), (16, .s (.int .u32 dl)), (17, .s (.int .i64 i)), (21, .s (.int .u32 (if m.re.any (movW c a ok) then dl else 0)))], upd H v (.cells m.cells)⟩ ?_ fun k hk => ?_
                · replace nx := nx.go
                  simp only [Mod.cells] at nx ⊢
                  replace nx := later nx
                  generalize (if m.re.any (movW c a ok) then dl else 0) = want at *
                  have hbe : (want != want) = false := by simp
                  (repeat' (first | refine wk ?_ | refine wk2 ?_ ?_ | with_reducible refine wkF fun _ _ _ => ?_ | with_reducible intro _ | exact ag | fail))
                  refine ARun.drawB mixed [([], [0, 1, 2, 3, 4, 5, 6, 7, 8, 9, 10], none)] (by kernel_rfl) (by rfl) ?_
                  (repeat' (first | refine wk ?_ | refine wk2 ?_ ?_ | with_reducible refine wkF fun _ _ _ => ?_ | with_reducible intro _ | exact ag | fail))
                  exact ARun.weaken nx.go (leK (Sub.refl _))
                · clear nx hx1 hx2 hw hm
                  refine ARun.rounds (fun j : Nat => ⟨[(3, .s (.pointer (some ⟨v, 0, none⟩))), (12, .vs 1 (img.map u1)), (14, .vs 1 (img'.map u1)), (16, .s (.int .u32 dl)), (17, .s (.int .i64 i)), (18, .s (.bool c)), (19, .s (.int .i64 a)), (20, .s (.bool ok)), (21, .s (.int .u32 (if (m.re.take j).any (movW c a ok) then dl else 0))), (22, .s (.int .i64 j))], upd H v (.cells m.cells)⟩) (fun j => m.re.length - j) (fun j => j ≤ m.re.length) ?_ 0 (by omega) ?_
                  · rintro j hj next
                    simp only [Mod.cells]
                    have hlre := later hko.go.lre
                    by_cases hlt : j < m.re.length
                    · have g1 : (j : Int) < m.re.length := by omega
                      have g2 : (0 : Int) ≤ j := by omega
                      have hw := w64s (i := j) (by have := hlre.go; omega)
                      obtain ⟨x, hx⟩ := at_ hlt
                      have hx1 := vget relE hx
                      rw [relE_def] at hx1
                      have e16 := u16_i64 ((hko.go.re x (List.mem_of_getElem? hx)).2.1)
                      have nx := next.go (j + 1) (by omega) (by omega)
                      rw [any_succ _ hx] at nx
                      have hmv : movW c a ok x = (ok && (((x.a : Int) == (a : Int)) && ((dataK x.k != c) && !impK x))) := rfl
                      rw [hmv] at nx
                      have hd := k6 x
                      clear next hx hmv
                      generalize (m.re.take j).any (movW c a ok) = nb at *
                      generalize hea : ((x.a : Int) == (a : Int)) = ea at *
                      generalize hdk : dataK x.k = dk at *
                      generalize hik : impK x = ik at *
                      clear hdk hik
                      have nxF := fun h : (ok && (ea && ((dk != c) && !ik))) = false => by rw [h, Bool.or_false] at nx; exact nx
                      have nxT := fun h : (ok && (ea && ((dk != c) && !ik))) = true => by rw [h, Bool.or_true, if_pos rfl] at nx; exact nx
                      clear nx
                      replace nxF := later nxF
                      replace nxT := later nxT
                      generalize (if nb = true then dl else 0) = want at *
                      rcases hd with ⟨rfl, rfl, k1⟩ | ⟨rfl, rfl, k1, k2, k3, k4⟩ | ⟨rfl, rfl, k1, k2, k3, k4, k5⟩ | ⟨rfl, rfl, k1, k2, k3, k4⟩ | ⟨rfl, rfl, k1, k2, k3, k4, k5⟩ | ⟨rfl, rfl, k1, k2, k3, k4, k5⟩
                      all_goals
                        cases ok
                        · (repeat' (first | refine wk ?_ | refine wk2 ?_ ?_ | with_reducible refine wkF fun _ _ _ => ?_ | with_reducible intro _ | exact ag | fail))
                          exact ARun.weaken (nxF.go rfl) (leK sb)
                        · cases ea
                          · (repeat' (first | refine wk ?_ | refine wk2 ?_ ?_ | with_reducible refine wkF fun _ _ _ => ?_ | with_reducible intro _ | exact ag | fail))
                            exact ARun.weaken (nxF.go rfl) (leK sb)
                          · cases c
                            all_goals
                              (repeat' (first | refine wk ?_ | refine wk2 ?_ ?_ | with_reducible refine wkF fun _ _ _ => ?_ | with_reducible intro _ | exact ag | fail))
                              all_goals first | (rename_i hh; cases hh; done) | exact ARun.weaken (nxF.go rfl) (leK sb) | exact ARun.weaken (nxT.go rfl) (leK sb) | fail
                    · have g1 : decide ((j : Int) < m.re.length) = false := by simp; omega
                      obtain rfl : j = m.re.length := by omega
                      clear next
                      rw [List.take_length]
                      (repeat' (first | refine wk ?_ | refine wk2 ?_ ?_ | with_reducible refine wkF fun _ _ _ => ?_ | with_reducible intro _ | exact ag | fail))
                      exact ARun.weaken hk.go (leK (Sub.refl _))
                  · simp only [List.take_zero, List.any_nil, Mod.cells, Bool.false_eq_true, if_false]
                    exact leK (Sub.refl _)
              · have h1 : decide ((i : Int) < img.length) = false := by simp; omega
                obtain rfl : i = img.length := by omega
                clear next hig1 hig2 hil hN hi hlt mv
                (repeat' (first | refine wk ?_ | refine wk2 ?_ ?_ | with_reducible refine wkF fun _ _ _ => ?_ | with_reducible intro _ | refine Calling.eq (W.go _) ?_ | exact ag | fail))
                exact fin0
            · simp only [Mod.cells]
              exact leK sb
          · have A := fun H => at_ok (f := f) (by omega) (by omega) b0 (by omega) hfit H
            have A' := fun H => at_no (f := f') (by omega) (by omega) b0 (by omega) (by omega) H
            simp only [Mod.tv_def, Mod.cells] at O ⊢
            generalize 80 + 16 * (f + upN m.co.length) = pd at *
            generalize 80 + 16 * f = pc at *
            generalize upN m.co.length = a at *
            generalize upN m.da.length = b at *
            clear hfit hfit' ba bb b0 l1 l2 l3
            (repeat' (first | refine wk ?_ | refine wk2 ?_ ?_ | with_reducible refine wkF fun _ _ _ => ?_ | with_reducible intro _ | refine Calling.eq (O _) ?_ | refine Calling.eq (A _) ?_ | refine Calling.eq (A' _) ?_ | refine Calling.eq (W.go _) ?_ | exact ag | fail))
            exact fin0
        · have A := fun H => at_no (f := f) (by omega) (by omega) b0 (by omega) (by omega) H
          by_cases hfit' : f' + (upN m.co.length + upN m.da.length) ≤ 256
          · have A' := fun H => at_ok (f := f') (by omega) (by omega) b0 (by omega) hfit' H
            simp only [Mod.tv_def, Mod.cells] at O ⊢
            generalize 80 + 16 * (f' + upN m.co.length) = pd at *
            generalize 80 + 16 * f' = pc at *
            generalize upN m.co.length = a at *
            generalize upN m.da.length = b at *
            clear hfit hfit' ba bb b0 l1 l2 l3
            (repeat' (first | refine wk ?_ | refine wk2 ?_ ?_ | with_reducible refine wkF fun _ _ _ => ?_ | with_reducible intro _ | refine Calling.eq (O _) ?_ | refine Calling.eq (A _) ?_ | refine Calling.eq (A' _) ?_ | refine Calling.eq (W.go _) ?_ | exact ag | fail))
            exact fin0
          · have A' := fun H => at_no (f := f') (by omega) (by omega) b0 (by omega) (by omega) H
            simp only [Mod.tv_def, Mod.cells] at O ⊢
            generalize upN m.co.length = a at *
            generalize upN m.da.length = b at *
            clear hfit hfit' ba bb b0 l1 l2 l3
            (repeat' (first | refine wk ?_ | refine wk2 ?_ ?_ | with_reducible refine wkF fun _ _ _ => ?_ | with_reducible intro _ | refine Calling.eq (O _) ?_ | refine Calling.eq (A _) ?_ | refine Calling.eq (A' _) ?_ | refine Calling.eq (W.go _) ?_ | exact ag | fail))
            exact fin0
      · simp only [List.forall_mem_cons, List.not_mem_nil, false_implies, implies_true, and_true]
        have hsK : Sub (upd H v (.cells m.cells)) (ownH (upd H v (.cells m.cells)) b ((List.replicate m.im.length 0).map u1)) := sub_ownK (Sub.refl _) fun _ => hb
        exact ⟨⟨_, ag, Conv.refl hsK _⟩, ⟨_, ag, Conv.refl hsK _⟩, ⟨_, ag, Conv.refl hsK _⟩, ⟨_, ag, conv_ownK (Sub.refl _) (fun _ => hb) (each_u1 _)⟩⟩
end Go.Abs
