import Derived.Test.YtllkloneapjgjaaDoorMg1
/- Instructions, as words: what the program's functions make. -/
namespace Go.Abs
set_option linter.unusedSimpArgs false
set_option linter.unusedVariables false
set_option maxHeartbeats 4000000
open Go.Proofs Go.Wd
set_option linter.unusedVariables false
set_option maxRecDepth 8000
variable {H : Heap}
/-- What Encode tells. -/
def Ins.word (x : Ins) : Nat := if x.chk = 0 then encN x.o x.d x.a x.b x.i else 0
theorem Ins.word_lt (x : Ins) : x.word < 2 ^ 32 := by unfold Ins.word; split; exact withN_lt _ _ _ _; decide
theorem w8to32 {x : Nat} (h : x < 256) : IntKind.u32.wrap (x : Int) = (x : Int) := w32 (by omega) (by omega)
theorem encode_c {x : Ins} (hx : x.ok) : AC Tryd.prog 77 [.agg x.enc] H (fun r H' => r = .tup [.s (.int .u32 (x.word : Nat)), .s (.int .i64 x.chk)] ∧ H' = H) := by
  have hk := fun H => isaCheck_c (H := H) hx
  by_cases hc : x.chk = 0
  · have hw : x.word = encN x.o x.d x.a x.b x.i := by unfold Ins.word; rw [if_pos hc]
    rw [hw, hc]
    obtain ⟨o, d, a, b, i⟩ := x
    simp only [Ins.enc_def, Ins.ok, hc] at hx hk ⊢
    obtain ⟨h1, h2, h3, h4, h5, h6⟩ := hx
    clear hw hc
    have e1 := w8to32 h1
    have e2 := w8to32 h2
    have e3 := w8to32 h3
    have e4 := w8to32 h4
    have c1 := cutN_lt i
    have e5 := or_nat (cutN i) b (by omega) (by omega)
    have c2 : cutN i ||| b < 2 ^ 32 := or_lt _ _ _ (by omega) (by omega)
    unfold encN
    have A1 := fun H => with_c (H := H) (w := cutN i ||| b) (a := 27) (n := 5) (v := o) c2 (by omega) (by decide)
    have A2 := fun H => with_c (H := H) (w := withN (cutN i ||| b) 27 5 o) (a := 24) (n := 3) (v := d) (withN_lt _ _ _ _) (by omega) (by decide)
    have A3 := fun H => with_c (H := H) (w := withN (withN (cutN i ||| b) 27 5 o) 24 3 d) (a := 21) (n := 3) (v := a) (withN_lt _ _ _ _) (by omega) (by decide)
    simp only [Int.cast_ofNat_Int] at A1 A2 A3
    refine AC.body Tryd.func77 rfl rfl (n := 31) (res := [.tmp 2, .tmp 3]) rfl rfl (by simp) ?_
    simp only [ent]
    (repeat' (first | refine wk ?_ | refine wk2 ?_ ?_ | with_reducible refine wkF fun _ _ _ => ?_ | with_reducible intro _ | refine Calling.eq (hk _) ?_ | refine Calling.eq (cut_c) ?_ | refine Calling.eq (A1 _) ?_ | refine Calling.eq (A2 _) ?_ | refine Calling.eq (A3 _) ?_ | exact ag | fail))
    refine ARun.drawB mixed [([], [0, 1, 3, 4, 5, 7, 8, 9], some 2), ([0, 3, 4, 5, 7, 8, 9], [6], some 10), ([0, 1, 3, 4, 5, 7, 8], [11], none)] (by kernel_rfl) (by rfl) ?_
    (repeat' (first | refine wk ?_ | refine wk2 ?_ ?_ | with_reducible refine wkF fun _ _ _ => ?_ | with_reducible intro _ | refine Calling.eq (hk _) ?_ | refine Calling.eq (cut_c) ?_ | refine Calling.eq (A1 _) ?_ | refine Calling.eq (A2 _) ?_ | refine Calling.eq (A3 _) ?_ | exact ag | fail))
    refine ARun.drawB mixed [([], [0, 1, 2, 3, 5, 6, 7], some 4), ([1, 2, 5, 6, 7], [], some 8), ([0, 1, 2, 3, 5, 6], [9, 10], none)] (by kernel_rfl) (by rfl) ?_
    (repeat' (first | refine wk ?_ | refine wk2 ?_ ?_ | with_reducible refine wkF fun _ _ _ => ?_ | with_reducible intro _ | refine Calling.eq (hk _) ?_ | refine Calling.eq (cut_c) ?_ | refine Calling.eq (A1 _) ?_ | refine Calling.eq (A2 _) ?_ | refine Calling.eq (A3 _) ?_ | exact ag | fail))
    exact fin0
  · have hw : x.word = 0 := by unfold Ins.word; rw [if_neg hc]
    rw [hw]
    have hb : (x.chk != 0) = true := by simpa using hc
    simp only [Ins.enc_def] at hk ⊢
    refine AC.body Tryd.func77 rfl rfl (n := 31) (res := [.tmp 2, .tmp 3]) rfl rfl (by simp) ?_
    simp only [ent]
    (repeat' (first | refine wk ?_ | refine wk2 ?_ ?_ | with_reducible refine wkF fun _ _ _ => ?_ | with_reducible intro _ | refine Calling.eq (hk _) ?_ | exact ag | fail))
    exact fin0
/-- What a word's parts are. -/
def parts (w : Nat) : Ins := ⟨bitsN w 27 5, bitsN w 24 3, bitsN w 21 3, if (usesR (opN w)).2.2.1 = true then bitsN w 0 3 else 0, iN w⟩
theorem parts_ok (w : Nat) : (parts w).ok := by
  have h1 := bitsN_lt w 27 5
  have h2 := bitsN_lt w 24 3
  have h3 := bitsN_lt w 21 3
  have h4 := bitsN_lt w 0 3
  have h5 := iN_lt w
  refine ⟨?_, ?_, ?_, ?_, h5.1, h5.2⟩ <;> simp only [parts] <;> try omega
  split <;> omega
def insOk (w : Nat) : Bool := decide ((parts w).chk = 0) && (parts w).word == w
def Ins.zero : Ins := ⟨0, 0, 0, 0, 0⟩
/-- What Decode tells. -/
def dec (w : Nat) : Ins := if insOk w = true then parts w else Ins.zero
def decE (w : Nat) : Int := if insOk w = true then 0 else 10
theorem bits_c' {w a n : Nat} (hw : w < 2 ^ 32) (h : a + n ≤ 32) (hn : n ≤ 8) : IntKind.u8.wrap ((bitsN w a n : Nat) : Int) = ((bitsN w a n : Nat) : Int) := by
  have h1 := bitsN_lt w a n
  have : 2 ^ n ≤ 2 ^ 8 := Nat.pow_le_pow_right (by decide) hn
  exact w8 (by omega) (by omega)
theorem decode_c {w : Nat} (hw : w < 2 ^ 32) : AC Tryd.prog 69 [.s (.int .u32 w)] H (fun r H' => r = .tup [.agg (dec w).enc, .s (.int .i64 (decE w))] ∧ H' = H) := by
  have B1 := fun H => bits_c (H := H) (w := w) (a := 27) (n := 5) hw (by decide)
  have B2 := fun H => bits_c (H := H) (w := w) (a := 24) (n := 3) hw (by decide)
  have B3 := fun H => bits_c (H := H) (w := w) (a := 21) (n := 3) hw (by decide)
  have B4 := fun H => bits_c (H := H) (w := w) (a := 0) (n := 3) hw (by decide)
  have S := fun H => signed_c (H := H) hw
  simp only [Int.cast_ofNat_Int] at B1 B2 B3 B4
  have e1 := bits_c' hw (a := 27) (n := 5) (by decide) (by decide)
  have e2 := bits_c' hw (a := 24) (n := 3) (by decide) (by decide)
  have e3 := bits_c' hw (a := 21) (n := 3) (by decide) (by decide)
  have e4 := bits_c' hw (a := 0) (n := 3) (by decide) (by decide)
  have hp := parts_ok w
  have E := fun H => encode_c (H := H) hp
  have U := fun H => uses_c (H := H) (o := bitsN w 27 5)
  have hi : ∀ b : Bool, insOk w = b → dec w = (if b = true then parts w else Ins.zero) ∧ decE w = (if b = true then 0 else 10) := fun b h => by unfold dec decE; rw [h]; exact ⟨rfl, rfl⟩
  have ho : insOk w = (decide ((parts w).chk = 0) && (parts w).word == w) := rfl
  have hu : usesR ((bitsN w 27 5 : Nat) : Int) = ((usesR ((bitsN w 27 5 : Nat) : Int)).1, (usesR ((bitsN w 27 5 : Nat) : Int)).2.1, (usesR ((bitsN w 27 5 : Nat) : Int)).2.2.1, (usesR ((bitsN w 27 5 : Nat) : Int)).2.2.2) := rfl
  cases hu3 : (usesR ((bitsN w 27 5 : Nat) : Int)).2.2.1 with
  | true =>
    have hpe : parts w = ⟨bitsN w 27 5, bitsN w 24 3, bitsN w 21 3, bitsN w 0 3, 0⟩ := by unfold parts iN opN; rw [hu3]; rfl
    rw [hu3] at hu
    generalize (usesR ((bitsN w 27 5 : Nat) : Int)).1 = u1 at hu
    generalize (usesR ((bitsN w 27 5 : Nat) : Int)).2.1 = u2 at hu
    generalize (usesR ((bitsN w 27 5 : Nat) : Int)).2.2.2 = u4 at hu
    rw [hu] at U
    simp only [b4_mk] at U
    generalize hk : (parts w).chk = k at E ho
    generalize hv : (parts w).word = v at E ho
    rw [hpe, Ins.enc_def] at E
    simp only [] at E
    clear hk hv hp hu3 hu
    by_cases hk0 : k = 0
    · subst hk0
      by_cases hv0 : v = w
      · subst hv0
        obtain ⟨h1, h2⟩ := hi true (by simpa using ho)
        rw [if_pos rfl, hpe] at h1
        rw [if_pos rfl] at h2
        clear ho hi hpe
        rw [h1, h2, Ins.enc_def]
        clear h1 h2
        refine AC.body Tryd.func69 rfl rfl (n := 51) (res := [.cell 2 117, .tmp 3]) rfl rfl (by simp) ?_
        simp only [ent]
        (repeat' (first | refine wk ?_ | refine wk2 ?_ ?_ | with_reducible refine wkF fun _ _ _ => ?_ | with_reducible intro _ | refine Calling.eq (B1 _) ?_ | refine Calling.eq (B2 _) ?_ | refine Calling.eq (B3 _) ?_ | refine Calling.eq (B4 _) ?_ | refine Calling.eq (S _) ?_ | refine Calling.eq (U _) ?_ | refine Calling.eq (E _) ?_ | exact ag | fail))
        exact fin0
      · have hb : (((v : Nat) : Int) != (w : Int)) = true := by simp; omega
        obtain ⟨h1, h2⟩ := hi false (by rw [ho]; simp [hv0])
        rw [if_neg (by simp)] at h1 h2
        clear ho hi hpe
        rw [h1, h2]
        clear h1 h2
        refine AC.body Tryd.func69 rfl rfl (n := 51) (res := [.cell 2 117, .tmp 3]) rfl rfl (by simp) ?_
        simp only [ent]
        (repeat' (first | refine wk ?_ | refine wk2 ?_ ?_ | with_reducible refine wkF fun _ _ _ => ?_ | with_reducible intro _ | refine Calling.eq (B1 _) ?_ | refine Calling.eq (B2 _) ?_ | refine Calling.eq (B3 _) ?_ | refine Calling.eq (B4 _) ?_ | refine Calling.eq (S _) ?_ | refine Calling.eq (U _) ?_ | refine Calling.eq (E _) ?_ | exact ag | fail))
        exact fin0
    · have hb : (k != 0) = true := by simpa using hk0
      obtain ⟨h1, h2⟩ := hi false (by rw [ho]; simp [hk0])
      rw [if_neg (by simp)] at h1 h2
      clear ho hi hpe
      rw [h1, h2]
      clear h1 h2
      refine AC.body Tryd.func69 rfl rfl (n := 51) (res := [.cell 2 117, .tmp 3]) rfl rfl (by simp) ?_
      simp only [ent]
      (repeat' (first | refine wk ?_ | refine wk2 ?_ ?_ | with_reducible refine wkF fun _ _ _ => ?_ | with_reducible intro _ | refine Calling.eq (B1 _) ?_ | refine Calling.eq (B2 _) ?_ | refine Calling.eq (B3 _) ?_ | refine Calling.eq (B4 _) ?_ | refine Calling.eq (S _) ?_ | refine Calling.eq (U _) ?_ | refine Calling.eq (E _) ?_ | exact ag | fail))
      exact fin0
  | false =>
    have hpe : parts w = ⟨bitsN w 27 5, bitsN w 24 3, bitsN w 21 3, 0, signN w⟩ := by unfold parts iN opN; rw [hu3]; rfl
    rw [hu3] at hu
    generalize (usesR ((bitsN w 27 5 : Nat) : Int)).1 = u1 at hu
    generalize (usesR ((bitsN w 27 5 : Nat) : Int)).2.1 = u2 at hu
    generalize (usesR ((bitsN w 27 5 : Nat) : Int)).2.2.2 = u4 at hu
    rw [hu] at U
    simp only [b4_mk] at U
    generalize hk : (parts w).chk = k at E ho
    generalize hv : (parts w).word = v at E ho
    rw [hpe, Ins.enc_def] at E
    simp only [Int.cast_ofNat_Int] at E
    clear hk hv hp hu3 hu
    by_cases hk0 : k = 0
    · subst hk0
      by_cases hv0 : v = w
      · subst hv0
        obtain ⟨h1, h2⟩ := hi true (by simpa using ho)
        rw [if_pos rfl, hpe] at h1
        rw [if_pos rfl] at h2
        clear ho hi hpe
        rw [h1, h2, Ins.enc_def]
        clear h1 h2
        refine AC.body Tryd.func69 rfl rfl (n := 51) (res := [.cell 2 117, .tmp 3]) rfl rfl (by simp) ?_
        simp only [ent]
        (repeat' (first | refine wk ?_ | refine wk2 ?_ ?_ | with_reducible refine wkF fun _ _ _ => ?_ | with_reducible intro _ | refine Calling.eq (B1 _) ?_ | refine Calling.eq (B2 _) ?_ | refine Calling.eq (B3 _) ?_ | refine Calling.eq (B4 _) ?_ | refine Calling.eq (S _) ?_ | refine Calling.eq (U _) ?_ | refine Calling.eq (E _) ?_ | exact ag | fail))
        exact fin0
      · have hb : (((v : Nat) : Int) != (w : Int)) = true := by simp; omega
        obtain ⟨h1, h2⟩ := hi false (by rw [ho]; simp [hv0])
        rw [if_neg (by simp)] at h1 h2
        clear ho hi hpe
        rw [h1, h2]
        clear h1 h2
        refine AC.body Tryd.func69 rfl rfl (n := 51) (res := [.cell 2 117, .tmp 3]) rfl rfl (by simp) ?_
        simp only [ent]
        (repeat' (first | refine wk ?_ | refine wk2 ?_ ?_ | with_reducible refine wkF fun _ _ _ => ?_ | with_reducible intro _ | refine Calling.eq (B1 _) ?_ | refine Calling.eq (B2 _) ?_ | refine Calling.eq (B3 _) ?_ | refine Calling.eq (B4 _) ?_ | refine Calling.eq (S _) ?_ | refine Calling.eq (U _) ?_ | refine Calling.eq (E _) ?_ | exact ag | fail))
        exact fin0
    · have hb : (k != 0) = true := by simpa using hk0
      obtain ⟨h1, h2⟩ := hi false (by rw [ho]; simp [hk0])
      rw [if_neg (by simp)] at h1 h2
      clear ho hi hpe
      rw [h1, h2]
      clear h1 h2
      refine AC.body Tryd.func69 rfl rfl (n := 51) (res := [.cell 2 117, .tmp 3]) rfl rfl (by simp) ?_
      simp only [ent]
      (repeat' (first | refine wk ?_ | refine wk2 ?_ ?_ | with_reducible refine wkF fun _ _ _ => ?_ | with_reducible intro _ | refine Calling.eq (B1 _) ?_ | refine Calling.eq (B2 _) ?_ | refine Calling.eq (B3 _) ?_ | refine Calling.eq (B4 _) ?_ | refine Calling.eq (S _) ?_ | refine Calling.eq (U _) ?_ | refine Calling.eq (E _) ?_ | exact ag | fail))
      exact fin0
end Go.Abs
/- Modules that are looked at: what the program's functions make. -/
namespace Go.Abs
set_option linter.unusedSimpArgs false
set_option linter.unusedVariables false
set_option maxHeartbeats 4000000
open Go.Proofs Go.Nm Go.Wd
set_option linter.unusedVariables false
set_option maxRecDepth 8000
variable {H : Heap}
/-- Numbers in their ranges; lists and texts that memory holds. -/
structure Mod.ok (m : Mod) : Prop where
  co : ∀ x ∈ m.co, x < 2 ^ 32
  da : ∀ x ∈ m.da, x < 2 ^ 32
  re : ∀ r ∈ m.re, r.k < 256 ∧ r.a < 65536 ∧ r.w < 65536
  lex : m.ex.length < 4611686018427387904
  lim : m.im.length < 4611686018427387904
  lco : m.co.length < 4611686018427387904
  lda : m.da.length < 4611686018427387904
  lre : m.re.length < 4611686018427387904
def longB (s : ByteArray) : Bool := decide ((96 : Int) < s.size)
def kindB (r : Rlc) : Bool := decide ((7 : Int) < r.k)
theorem long_c (x : ByteArray) (H : Heap) : AC Tryd.prog 64 [.s (.string x)] H (fun r H' => r = .s (.bool (longB x)) ∧ H' = H) := by
  refine AC.body Tryd.func64 rfl rfl (n := 6) (res := [.tmp 2]) rfl rfl (by simp) ?_
  simp only [ent]
  (repeat' (first | refine wk ?_ | refine wk2 ?_ ?_ | with_reducible refine wkF fun _ _ _ => ?_ | with_reducible intro _ | exact ag | fail))
  all_goals
    refine fin1 ⟨?_, rfl⟩
    first | rfl | (simp only [resV, longB, *, Bool.or_false, Bool.or_true, Bool.false_or, Bool.true_or, Bool.and_false, Bool.and_true, Bool.false_and, Bool.true_and, Bool.not_true, Bool.not_false, Bool.false_eq_true, if_true, if_false]; done) | (simp only [resV, longB]; simp_all; done) | (simp only [resV, longB]; simp_all <;> omega)
theorem kind_c (x : Rlc) (H : Heap) : AC Tryd.prog 66 [.agg (relE x)] H (fun r H' => r = .s (.bool (kindB x)) ∧ H' = H) := by
  refine AC.body Tryd.func66 rfl rfl (n := 6) (res := [.tmp 2]) rfl rfl (by simp) ?_
  simp only [ent]
  simp only [relE_def]
  (repeat' (first | refine wk ?_ | refine wk2 ?_ ?_ | with_reducible refine wkF fun _ _ _ => ?_ | with_reducible intro _ | exact ag | fail))
  all_goals
    refine fin1 ⟨?_, rfl⟩
    first | rfl | (simp only [resV, kindB, *, Bool.or_false, Bool.or_true, Bool.false_or, Bool.true_or, Bool.and_false, Bool.and_true, Bool.false_and, Bool.true_and, Bool.not_true, Bool.not_false, Bool.false_eq_true, if_true, if_false]; done) | (simp only [resV, kindB]; simp_all; done) | (simp only [resV, kindB]; simp_all <;> omega)
def anyB {α : Type} (p : α → Bool) (l : List α) : Bool := decide (0 ≤ fi p l)
def Mod.obj (m : Mod) : Int :=
  if decide ((8 : Int) < m.ex.length) || (decide ((16 : Int) < m.im.length) || decide ((256 : Int) < m.re.length)) then 5
  else if decide ((512 : Int) < m.co.length) || decide ((128 : Int) < m.da.length) then 5
  else if longB m.nm || (decide (0 ≤ fi longB m.ex) || decide (0 ≤ fi longB m.im)) then 5
  else if decide (0 ≤ fi kindB m.re) then 2 else 0
theorem obj_c (m : Mod) (hm : m.ok) (H : Heap) : AC Tryd.prog 47 [m.tv] H (fun r H' => r = .s (.int .i64 m.obj) ∧ H' = H) := by
  refine AC.body Tryd.func47 rfl rfl (n := 53) (res := [.tmp 2]) rfl rfl (by simp) ?_
  simp only [ent]
  simp only [Mod.tv_def]
  have L := long_c m.nm
  have E := fun H => (cofS_c m.ex hm.lex 64 [] longB H (fun x _ => long_c x H)).func
  have I := fun H => (cofS_c m.im hm.lim 64 [] longB H (fun x _ => long_c x H)).func
  have K := fun H => (cofR_c m.re hm.lre 66 [] kindB H (fun x _ => kind_c x H)).func
  clear hm
  (repeat' (first | refine wk ?_ | refine wk2 ?_ ?_ | with_reducible refine wkF fun _ _ _ => ?_ | with_reducible intro _ | refine Calling.eq (L _) ?_ | refine Calling.eq (E _) ?_ | refine Calling.eq (I _) ?_ | refine Calling.eq (K _) ?_ | exact ag | fail))
  all_goals
    refine fin1 ⟨?_, rfl⟩
    first | rfl | (simp only [resV, Mod.obj, *, Bool.or_false, Bool.or_true, Bool.false_or, Bool.true_or, Bool.and_false, Bool.and_true, Bool.false_and, Bool.true_and, Bool.not_true, Bool.not_false, Bool.false_eq_true, if_true, if_false]; done) | (simp only [resV, Mod.obj]; simp_all; done) | (simp only [resV, Mod.obj]; simp_all <;> omega)
def badN (s : ByteArray) : Bool := chk s != 0
/-- A text that stood ahead. -/
def dup (l : List ByteArray) (i : Nat) : Bool := match l[i]? with
  | some x => decide (0 ≤ fi (fun y => x.toList == y.toList) (l.take i))
  | none => false
def rep (l : List ByteArray) : Int := fi (dup l) (List.range l.length)
theorem range_get {n i : Nat} (h : i < n) : (List.range n)[i]? = some i := by rw [List.getElem?_eq_getElem (by simpa using h)]; simp
theorem rep_some {l : List ByteArray} {i : Nat} (hi : i < l.length) (h : dup l i = true) (hn : noneB (dup l) (List.range l.length) i) : rep l = i := fi_some (range_get hi) h hn
theorem repeated_c (l : List ByteArray) (hl : l.length < 4611686018427387904) (H : Heap) : AC Tryd.prog 68 [.vs 1 (l.map s1)] H (fun r H' => r = .s (.int .i64 (rep l)) ∧ H' = H) := by
  refine AC.body Tryd.func68 rfl rfl (n := 19) (res := [.tmp 2]) rfl rfl (by simp) ?_
  simp only [ent]
  (repeat' (first | refine wk ?_ | refine wk2 ?_ ?_ | with_reducible refine wkF fun _ _ _ => ?_ | with_reducible intro _ | exact ag | fail))
  refine ARun.rounds (fun i : Nat => ⟨[(0, .vs 1 (l.map s1)), (5, .vs 1 (l.map s1)), (6, .s (.int .i64 l.length)), (7, .s (.int .i64 i))], H⟩) (fun i => l.length - i) (fun i => i ≤ l.length ∧ noneB (dup l) (List.range l.length) i) ?_ 0 ⟨by omega, .zero⟩ ?_
  · rintro i ⟨hi, hno⟩ next
    replace hno := later hno
    by_cases hlt : i < l.length
    · have h1 : (i : Int) < l.length := by omega
      have h2 : (0 : Int) ≤ i := by omega
      have h3 : (i : Int) ≤ l.length := by omega
      obtain ⟨x, hx⟩ := at_ hlt
      have hx1 := vget s1 hx
      rw [s1_def] at hx1
      have hw := w64s (i := i) (by omega)
      have hd : dup l i = decide (0 ≤ fi (fun y => x.toList == y.toList) (l.take i)) := by unfold dup; rw [hx]
      have C := fun H => coS_c (l.take i) (by rw [List.length_take]; omega) x H
      rw [← hd, List.map_take] at C
      replace hx := later hx
      cases hdup : dup l i with
      | true =>
        rw [hdup] at C
        rw [rep_some hlt hdup hno.go]
        clear hd next
        (repeat' (first | refine wk ?_ | refine wk2 ?_ ?_ | with_reducible refine wkF fun _ _ _ => ?_ | with_reducible intro _ | refine Calling.eq (C _) ?_ | exact ag | fail))
        exact fin0
      | false =>
        rw [hdup] at C
        clear hd
        (repeat' (first | refine wk ?_ | refine wk2 ?_ ?_ | with_reducible refine wkF fun _ _ _ => ?_ | with_reducible intro _ | refine Calling.eq (C _) ?_ | exact ag | fail))
        exact ARun.weaken (next.go (i + 1) ⟨by omega, hno.go.succ (range_get hlt) hdup⟩ (by omega)) (leK (Sub.refl _))
    · have h1 : decide ((i : Int) < l.length) = false := by simp; omega
      have he : rep l = -1 := fi_end (by simp; omega) hno.go
      rw [he]
      clear next he
      (repeat' (first | refine wk ?_ | refine wk2 ?_ ?_ | with_reducible refine wkF fun _ _ _ => ?_ | with_reducible intro _ | exact ag | fail))
      exact fin0
  · exact leK (Sub.refl _)
theorem grow_c {n : Nat} (h0 : 0 < n) (hn : n < 1000000) (H : Heap) : AC Tryd.prog 82 [.nils, .s (.int .i64 n)] H (fun r H' => ∃ b, H b = none ∧ r = .rs b 0 0 1 ∧ H' = upd H b (.cells [])) := by
  refine AC.body Tryd.func82 rfl rfl (n := 27) (res := [.tmp 4]) rfl rfl (by simp) ?_
  simp only [ent]
  have e1 : IntKind.i64.wrap (0 - 0) = 0 := rfl
  have e2 : IntKind.i64.wrap ((n : Int) - 0) = n := wi64 (by omega) (by omega)
  have h1 : (0 : Int) < n := by omega
  (repeat' (first | refine wk ?_ | refine wk2 ?_ ?_ | with_reducible refine wkF fun _ _ _ => ?_ | with_reducible intro _ | refine Doing.eq (oc_cap_nils us23) ?_ | refine Doing.fresh (oc_grow ap23 (kx := .i64) rfl h0 (by decide) (by omega) (by omega)) fun _ _ _ => ?_ | exact ag | fail))
  exact Fin.plain agr (Sub.refl _) ⟨_, by assumption, rfl, rfl⟩
end Go.Abs
/- Modules that are looked at: names and words. -/
namespace Go.Abs
set_option linter.unusedSimpArgs false
set_option linter.unusedVariables false
set_option maxHeartbeats 4000000
open Go.Proofs Go.Nm Go.Wd
set_option linter.unusedVariables false
set_option maxRecDepth 8000
variable {H : Heap}
theorem each_s1 (l : List ByteArray) : Each 1 (l.map s1) := fun e he => by obtain ⟨x, _, rfl⟩ := List.mem_map.1 he; rfl
theorem one_s1 (l : List ByteArray) : (l.map s1).flatten.all oneT = true := by
  induction l with
  | nil => rfl
  | cons x l ih => rw [List.map_cons, List.flatten_cons, List.all_append, ih]; rfl
theorem concat_c {x : ByteArray} {l : List ByteArray} (hl : l.length < 100000) {b0 b1 : Nat} (h0 : H b0 = some (.cells [.rs b1 0 1 1, .vs 1 (l.map s1)])) (h1 : H b1 = some (.cells [.s (.string x)])) :
    AC Tryd.prog 67 [.rs b0 0 2 1] H (fun r H' => r = .vs 1 ((x :: l).map s1) ∧ H' = H) := by
  refine AC.body Tryd.func67 rfl rfl (n := 36) (res := [.tmp 2]) rfl rfl (by simp) ?_
  simp only [ent]
  have e1 : IntKind.i64.wrap (0 + 1) = 1 := rfl
  have e2 : IntKind.i64.wrap (1 + (l.length : Int)) = ((l.length + 1 : Nat) : Int) := by rw [wi64 (by omega) (by omega)]; omega
  have e3 : IntKind.i64.wrap (1 + 1) = 2 := rfl
  have e4 : decide (((l.length + 1 : Nat) : Int) < 0) = false := by simp; omega
  (repeat' (first | refine wk ?_ | refine wk2 ?_ ?_ | with_reducible refine wkF fun _ _ _ => ?_ | with_reducible refine ARun.loop ?_ | with_reducible refine ARun.inLoop ?_ | with_reducible intro _ | refine Calling.fresh (grow_c (n := l.length + 1) (by omega) (by omega) H) fun _ _ _ => ?_ | exact ag | fail))
  rename_i b hb hne
  have q1 : (b1 = b) = False := (hne b1 (by rw [h1]; rfl)).1
  refine Doing.fresh (oc_append_rs (H := H) (cs := []) (ns := [.s (.string x)]) (m := 1) ap23 us23 hb rfl (srcT_rs (by simp only [upd_eq, q1, if_false]; exact h1) rfl) rfl (by omega) (by omega)) fun b2 hb2 hne2 => ?_
  (repeat' (first | refine wk ?_ | refine wk2 ?_ ?_ | with_reducible refine wkF fun _ _ _ => ?_ | with_reducible refine ARun.loop ?_ | with_reducible refine ARun.inLoop ?_ | with_reducible intro _ | exact ag | fail))
  refine Doing.fresh (oc_append_rs (H := H) (cs := [] ++ [.s (.string x)]) (ns := (l.map s1).flatten) (m := (l.map s1).length) ap23 us23 hb2 rfl (srcT_vs _ _ _) (one_s1 l) (by rw [List.length_map]; omega) (by rw [List.length_map]; omega)) fun b3 hb3 hne3 => ?_
  (repeat' (first | refine wk ?_ | refine wk2 ?_ ?_ | with_reducible refine wkF fun _ _ _ => ?_ | with_reducible refine ARun.loop ?_ | with_reducible refine ARun.inLoop ?_ | with_reducible intro _ | exact ag | fail))
  have hE : Each 1 ((x :: l).map s1) := each_s1 _
  refine Fin.done (vs := [.rs b3 0 ((x :: l).map s1).length 1]) (by simp only [go_sem, ↓reduceIte, Nat.reduceEqDiff]; rw [Nat.add_comm]) (Sub.upd (Sub.refl _) hb3) (conv_rs (Sub.upd (Sub.refl _) hb3) (by simp [upd]; rfl) hb3 hE) ⟨rfl, rfl⟩
/-- What texts tells. -/
def Mod.txt (m : Mod) : Int × Int :=
  if decide (0 ≤ fi badN (m.nm :: m.ex)) then (2, fi badN (m.nm :: m.ex)) else if decide (0 ≤ fi badN m.im) then (2, IntKind.i64.wrap (9 + fi badN m.im))
  else if decide (0 ≤ rep m.ex) then (3, rep m.ex) else if decide (0 ≤ rep m.im) then (3, IntKind.i64.wrap (8 + rep m.im)) else (0, 0)
def badW (w : Nat) : Bool := (decE w != 0) || (((dec w).o : Int) == 21)
theorem chk_bad {s : ByteArray} {b : Bool} (h : badN s = b) : (chk s != 0) = b := h
set_option maxHeartbeats 1000000 in
theorem texts_c {G : Heap} (g : GH G) (hs : Sub G H) (m : Mod) (hm : m.ok) (hall : ∀ s ∈ m.nm :: m.ex, fits s) (hims : ∀ s ∈ m.im, fits s) (h8 : m.ex.length < 100000) (h16 : m.im.length < 100000) : AC Tryd.prog 48 [m.tv] H (fun r H' => r = .tup [.s (.int .u8 m.txt.1), .s (.int .i64 m.txt.2)] ∧ H' = H) := by
  refine AC.body Tryd.func48 rfl rfl (n := 57) (res := [.tmp 2, .tmp 3]) rfl rfl (by simp) ?_
  simp only [ent]
  simp only [Mod.tv_def]
  have hlex := hm.lex
  have hlim := hm.lim
  replace hall := later hall
  replace hims := later hims
  have C := fun (H : Heap) (hs : Sub G H) (s : ByteArray) (hf : fits s) => check_c g hs hf
  replace C := later C
  clear hm
  have hc := fun (H : Heap) (b0 b1 : Nat) h0 h1 => concat_c (H := H) (b0 := b0) (b1 := b1) (x := m.nm) (l := m.ex) h8 h0 h1
  have htx : m.txt = if decide (0 ≤ fi badN (m.nm :: m.ex)) then (2, fi badN (m.nm :: m.ex)) else if decide (0 ≤ fi badN m.im) then (2, IntKind.i64.wrap (9 + fi badN m.im))
    else if decide (0 ≤ rep m.ex) then (3, rep m.ex) else if decide (0 ≤ rep m.im) then (3, IntKind.i64.wrap (8 + rep m.im)) else (0, 0) := rfl
  generalize hA : m.nm :: m.ex = A at *
  replace htx := later htx
  have hA8 : A.length < 100001 := by rw [← hA]; simp; omega
  clear hA
  (repeat' (first | refine wk ?_ | refine wk2 ?_ ?_ | with_reducible refine wkF fun _ _ _ => ?_ | with_reducible intro _ | refine Doing.fresh (oc_build1 ap23 (fun _ h => by cases h; rfl) rfl rfl (by decide) (by decide)) fun _ _ _ => ?_ | refine Doing.fresh (oc_build (n := 2) (es := [[.rs _ 0 1 1], [.vs 1 (m.ex.map s1)]]) ap134 (fun _ h => by cases h; rfl) rfl rfl rfl (.cons rfl (.cons rfl .nil)) (by decide) (by decide) (by decide)) fun _ _ _ => ?_ | exact ag | fail))
  rename_i v hv hvn b1 hb1 hbn1 b2 hb2 hbn2
  have hb1' := hb1
  have hb2' := hb2
  refine Calling.eq (hc _ _ _ (upd_self _ _ _) (by simp only [upd_eq, (hbn2 b1 (by simp [upd])).1, if_false, if_true])) ?_
  (repeat' (first | refine wk ?_ | refine wk2 ?_ ?_ | with_reducible refine wkF fun _ _ _ => ?_ | with_reducible intro _ | exact ag | fail))
  have R1 := fun H => repeated_c m.ex hlex H
  have R2 := fun H => repeated_c m.im hlim H
  have hsv : ∀ r, Sub G (upd H v r) := fun r => Sub.upd hs (hs.none hv)
  clear hb1 hbn1 hb2 hbn2 hc
  refine ARun.rounds (fun i : Nat => ⟨[(1, .s (.pointer (some ⟨v, 0, none⟩))), (18, .vs 1 (A.map s1)), (19, .s (.int .i64 A.length)), (20, .s (.int .i64 i))],
    upd H v (.cells [.s (.string m.nm), .vs 1 (m.ex.map s1), .vs 1 (m.im.map s1), .vs 1 (m.co.map u1), .vs 1 (m.da.map u1), .vs 3 (m.re.map relE)])⟩) (fun i => A.length - i) (fun i => i ≤ A.length ∧ noneB badN A i) ?_ 0 ⟨by omega, .zero⟩ ?_
  · rintro i ⟨hi, hno⟩ next
    replace hno := later hno
    by_cases hlt : i < A.length
    · have h1 : (i : Int) < A.length := by omega
      have h2 : (0 : Int) ≤ i := by omega
      obtain ⟨x, hx⟩ := at_ hlt
      have hx1 := vget s1 hx
      rw [s1_def] at hx1
      have hw := w64s (i := i) (by omega)
      have K := C.go _ (hsv (.cells [.s (.string m.nm), .vs 1 (m.ex.map s1), .vs 1 (m.im.map s1), .vs 1 (m.co.map u1), .vs 1 (m.da.map u1), .vs 3 (m.re.map relE)])) x (hall.go x (List.mem_of_getElem? hx))
      cases hb : badN x with
      | true =>
        have hb' := chk_bad hb
        have hf := fi_some hx hb hno.go
        have ht : m.txt = (2, (i : Int)) := by rw [htx.go, hf, if_pos (by simp)]
        rw [ht]
        clear hx next hf ht
        (repeat' (first | refine wk ?_ | refine wk2 ?_ ?_ | with_reducible refine wkF fun _ _ _ => ?_ | with_reducible intro _ | refine Calling.eq (K) ?_ | exact ag | fail))
        exact fin0
      | false =>
        have hb' := chk_bad hb
        replace hx := later hx
        (repeat' (first | refine wk ?_ | refine wk2 ?_ ?_ | with_reducible refine wkF fun _ _ _ => ?_ | with_reducible intro _ | refine Calling.eq (K) ?_ | exact ag | fail))
        exact ARun.weaken (next.go (i + 1) ⟨by omega, hno.go.succ hx.go hb⟩ (by omega)) (leK (Sub.refl _))
    · have h1 : decide ((i : Int) < A.length) = false := by simp; omega
      have hA1 : fi badN A = -1 := fi_end (by omega) hno.go
      replace htx := htx.go
      rw [hA1, if_neg (by decide)] at htx
      replace htx := later htx
      clear next hA1
      (repeat' (first | refine wk ?_ | refine wk2 ?_ ?_ | with_reducible refine wkF fun _ _ _ => ?_ | with_reducible intro _ | exact ag | fail))
      refine ARun.rounds (fun i : Nat => ⟨[(1, .s (.pointer (some ⟨v, 0, none⟩))), (31, .vs 1 (m.im.map s1)), (32, .s (.int .i64 m.im.length)), (33, .s (.int .i64 i))],
        upd H v (.cells [.s (.string m.nm), .vs 1 (m.ex.map s1), .vs 1 (m.im.map s1), .vs 1 (m.co.map u1), .vs 1 (m.da.map u1), .vs 3 (m.re.map relE)])⟩) (fun i => m.im.length - i) (fun i => i ≤ m.im.length ∧ noneB badN m.im i) ?_ 0 ⟨by omega, .zero⟩ ?_
      · rintro i ⟨hi, hno⟩ next
        replace hno := later hno
        by_cases hlt : i < m.im.length
        · have h1 : (i : Int) < m.im.length := by omega
          have h2 : (0 : Int) ≤ i := by omega
          obtain ⟨x, hx⟩ := at_ hlt
          have hx1 := vget s1 hx
          rw [s1_def] at hx1
          have hw := w64s (i := i) (by omega)
          have K := C.go _ (hsv (.cells [.s (.string m.nm), .vs 1 (m.ex.map s1), .vs 1 (m.im.map s1), .vs 1 (m.co.map u1), .vs 1 (m.da.map u1), .vs 3 (m.re.map relE)])) x (hims.go x (List.mem_of_getElem? hx))
          cases hb : badN x with
          | true =>
            have hb' := chk_bad hb
            have hf := fi_some hx hb hno.go
            have ht : m.txt = (2, IntKind.i64.wrap (9 + (i : Int))) := by rw [htx.go, hf, if_pos (by simp)]
            rw [ht]
            clear hx next hf ht
            (repeat' (first | refine wk ?_ | refine wk2 ?_ ?_ | with_reducible refine wkF fun _ _ _ => ?_ | with_reducible intro _ | refine Calling.eq (K) ?_ | exact ag | fail))
            exact fin0
          | false =>
            have hb' := chk_bad hb
            replace hx := later hx
            (repeat' (first | refine wk ?_ | refine wk2 ?_ ?_ | with_reducible refine wkF fun _ _ _ => ?_ | with_reducible intro _ | refine Calling.eq (K) ?_ | exact ag | fail))
            exact ARun.weaken (next.go (i + 1) ⟨by omega, hno.go.succ hx.go hb⟩ (by omega)) (leK (Sub.refl _))
        · have h1 : decide ((i : Int) < m.im.length) = false := by simp; omega
          have hA1 : fi badN m.im = -1 := fi_end (by omega) hno.go
          have htx := htx.go
          rw [hA1, if_neg (by decide)] at htx
          clear next hA1
          cases q1 : decide (0 ≤ rep m.ex) with
          | true =>
            rw [q1, if_pos rfl] at htx
            rw [htx]
            clear htx
            (repeat' (first | refine wk ?_ | refine wk2 ?_ ?_ | with_reducible refine wkF fun _ _ _ => ?_ | with_reducible intro _ | refine Calling.eq (R1 _) ?_ | refine Calling.eq (R2 _) ?_ | exact ag | fail))
            exact fin0
          | false =>
            rw [q1, if_neg (by simp)] at htx
            cases q2 : decide (0 ≤ rep m.im) with
            | true =>
              rw [q2, if_pos rfl] at htx
              rw [htx]
              clear htx
              (repeat' (first | refine wk ?_ | refine wk2 ?_ ?_ | with_reducible refine wkF fun _ _ _ => ?_ | with_reducible intro _ | refine Calling.eq (R1 _) ?_ | refine Calling.eq (R2 _) ?_ | exact ag | fail))
              exact fin0
            | false =>
              rw [q2, if_neg (by simp)] at htx
              rw [htx]
              clear htx
              (repeat' (first | refine wk ?_ | refine wk2 ?_ ?_ | with_reducible refine wkF fun _ _ _ => ?_ | with_reducible intro _ | refine Calling.eq (R1 _) ?_ | refine Calling.eq (R2 _) ?_ | exact ag | fail))
              exact fin0
      · exact leK (Sub.refl _)
  · exact leK (Sub.upd (Sub.upd (Sub.refl _) hb1') (none_upd hb2'))
theorem o_lt {w : Nat} : (dec w).o < 256 := by unfold dec; split; exact (parts_ok w).1; decide
/-- What words tells. -/
def Mod.wrd (m : Mod) : Int × Int :=
  if ((m.co.length : Nat) : Int) == 0 || decide (((m.co.length : Nat) : Int) < m.ex.length) then (4, 0) else if decide (0 ≤ fi badW m.co) then (5, fi badW m.co) else (0, 0)
theorem words_c (m : Mod) (hm : m.ok) (H : Heap) : AC Tryd.prog 49 [m.tv] H (fun r H' => r = .tup [.s (.int .u8 m.wrd.1), .s (.int .i64 m.wrd.2)] ∧ H' = H) := by
  refine AC.body Tryd.func49 rfl rfl (n := 43) (res := [.tmp 2, .tmp 3]) rfl rfl (by simp) ?_
  simp only [ent]
  simp only [Mod.tv_def]
  have hlco := hm.lco
  have hco := later hm.co
  clear hm
  cases q : (((m.co.length : Nat) : Int) == 0) with
  | true =>
    have ht : m.wrd = (4, 0) := by unfold Mod.wrd; rw [q]; rfl
    rw [ht]
    clear ht
    (repeat' (first | refine wk ?_ | refine wk2 ?_ ?_ | with_reducible refine wkF fun _ _ _ => ?_ | with_reducible intro _ | exact ag | fail))
    exact fin0
  | false => cases q2 : decide (((m.co.length : Nat) : Int) < m.ex.length) with
   | true =>
    have ht : m.wrd = (4, 0) := by unfold Mod.wrd; rw [q, q2]; rfl
    rw [ht]
    clear ht
    (repeat' (first | refine wk ?_ | refine wk2 ?_ ?_ | with_reducible refine wkF fun _ _ _ => ?_ | with_reducible intro _ | exact ag | fail))
    exact fin0
   | false =>
    have ht : m.wrd = if decide (0 ≤ fi badW m.co) then (5, fi badW m.co) else (0, 0) := by unfold Mod.wrd; rw [q, q2]; rfl
    replace ht := later ht
    (repeat' (first | refine wk ?_ | refine wk2 ?_ ?_ | with_reducible refine wkF fun _ _ _ => ?_ | with_reducible intro _ | exact ag | fail))
    rename_i v hv hvn
    refine ARun.rounds (fun i : Nat => ⟨[(22, .vs 1 (m.co.map u1)), (23, .s (.int .i64 m.co.length)), (24, .s (.int .i64 i))], H⟩) (fun i => m.co.length - i) (fun i => i ≤ m.co.length ∧ noneB badW m.co i) ?_ 0 ⟨by omega, .zero⟩ ?_
    · rintro i ⟨hi, hno⟩ next
      replace hno := later hno
      clear q q2 hv hvn
      by_cases hlt : i < m.co.length
      · have h1 : (i : Int) < m.co.length := by omega
        have h2 : (0 : Int) ≤ i := by omega
        obtain ⟨x, hx⟩ := at_ hlt
        have hx1 := vget u1 hx
        rw [u1_def] at hx1
        have hw := w64s (i := i) (by omega)
        have D := fun H => decode_c (H := H) (hco.go x (List.mem_of_getElem? hx))
        rw [Ins.enc_def] at D
        cases hb : badW x with
        | true =>
          have hf := fi_some hx hb hno.go
          have ht' : m.wrd = (5, (i : Int)) := by rw [ht.go, hf, if_pos (by simp)]
          rw [ht']
          unfold badW at hb
          clear hx next hf ht' ht
          cases q1 : (decE x != 0) with
          | true =>
            clear hb
            (repeat' (first | refine wk ?_ | refine wk2 ?_ ?_ | with_reducible refine wkF fun _ _ _ => ?_ | with_reducible intro _ | refine Calling.eq (D _) ?_ | exact ag | fail))
            exact fin0
          | false =>
            rw [q1, Bool.false_or] at hb
            (repeat' (first | refine wk ?_ | refine wk2 ?_ ?_ | with_reducible refine wkF fun _ _ _ => ?_ | with_reducible intro _ | refine Calling.eq (D _) ?_ | exact ag | fail))
            exact fin0
        | false =>
          have hb' := hb
          unfold badW at hb'
          obtain ⟨q1, q2⟩ := Bool.or_eq_false_iff.1 hb'
          clear hb'
          replace hx := later hx
          (repeat' (first | refine wk ?_ | refine wk2 ?_ ?_ | with_reducible refine wkF fun _ _ _ => ?_ | with_reducible intro _ | refine Calling.eq (D _) ?_ | exact ag | fail))
          exact ARun.weaken (next.go (i + 1) ⟨by omega, hno.go.succ hx.go hb⟩ (by omega)) (leK (by exact sb))
      · have h1 : decide ((i : Int) < m.co.length) = false := by simp; omega
        have hA1 : fi badW m.co = -1 := fi_end (by omega) hno.go
        have ht' : m.wrd = (0, 0) := by rw [ht.go, hA1]; rfl
        rw [ht']
        clear next hA1 ht'
        (repeat' (first | refine wk ?_ | refine wk2 ?_ ?_ | with_reducible refine wkF fun _ _ _ => ?_ | with_reducible intro _ | exact ag | fail))
        exact fin0
    · exact leK (by exact sb)
end Go.Abs
/- Modules that are looked at: relocations, and all in all. -/
namespace Go.Abs
set_option linter.unusedSimpArgs false
set_option linter.unusedVariables false
set_option maxHeartbeats 4000000
open Go.Proofs Go.Nm Go.Wd
set_option linter.unusedVariables false
set_option maxRecDepth 8000
variable {H : Heap}
def dataK (k : Nat) : Bool := ((k : Int) == 4) || (((k : Int) == 5) || ((k : Int) == 6))
/-- The word that a relocation names: in code or in data, and where. -/
def Rlc.spot (r : Rlc) : Bool × Nat := (!dataK r.k, r.a)
theorem of_c (r : Rlc) (H : Heap) : AC Tryd.prog 70 [.agg (relE r)] H (fun x H' => x = .agg [.s (.bool r.spot.1), .s (.int .u16 (r.spot.2 : Nat))] ∧ H' = H) := by
  refine AC.body Tryd.func70 rfl rfl (n := 22) (res := [.cell 2 122]) rfl rfl (by simp) ?_
  simp only [ent]
  obtain ⟨k, a, w⟩ := r
  simp only [relE_def, Rlc.spot]
  (repeat' (first | refine wk ?_ | refine wk2 ?_ ?_ | with_reducible refine wkF fun _ _ _ => ?_ | with_reducible intro _ | exact ag | fail))
  all_goals
    refine fin1 ⟨?_, rfl⟩
    first | rfl | (simp only [resV, dataK, *, Bool.or_false, Bool.or_true, Bool.false_or, Bool.true_or, Bool.and_false, Bool.and_true, Bool.false_and, Bool.true_and, Bool.not_true, Bool.not_false, Bool.false_eq_true, if_true, if_false]; done) | (simp only [resV, dataK]; simp_all; done) | (simp only [resV, dataK]; simp_all <;> omega)
@[go_sem] theorem egI : Tryd.prog.eqGuardType Tryd.prog.depth 117 = false := by kernel_rfl
def same5 (x y : Ins) : Bool := ((x.o : Int) == (y.o : Int)) && (((x.d : Int) == (y.d : Int)) && (((x.a : Int) == (y.a : Int)) && (((x.b : Int) == (y.b : Int)) && ((x.i == y.i) && true))))
@[go_sem] theorem eqI (a b c d : Int) (i : Int) (a' b' c' d' : Int) (i' : Int) : eqTV Tryd.prog 9 117 (.agg [.s (.int .u8 a), .s (.int .u8 b), .s (.int .u8 c), .s (.int .u8 d), .s (.int .i32 i)]) (.agg [.s (.int .u8 a'), .s (.int .u8 b'), .s (.int .u8 c'), .s (.int .u8 d'), .s (.int .i32 i')]) =
    some ((a == a') && ((b == b') && ((c == c') && ((d == d') && ((i == i') && true))))) := rfl
/-- Is a relocation's word one that an address goes to? -/
def Mod.fit (m : Mod) (r : Rlc) : Bool :=
  if r.spot.1 then (if ((r.k : Int) == 0) || ((r.k : Int) == 7) then same5 (dec (m.co.getD r.a 0)) ⟨17, 0, 0, 0, 0⟩ else (((dec (m.co.getD r.a 0)).o : Int) == 2) && ((dec (m.co.getD r.a 0)).i == 0))
  else ((m.da.getD r.a 0 : Nat) : Int) == 0
theorem fits_c' (m : Mod) (hm : m.ok) (r : Rlc) (hr : r.a < if r.spot.1 then m.co.length else m.da.length) (H : Heap) : AC Tryd.prog 72 [m.tv, .agg (relE r)] H (fun x H' => x = .s (.bool (m.fit r)) ∧ H' = H) := by
  refine AC.body Tryd.func72 rfl rfl (n := 47) (res := [.tmp 4]) rfl rfl (by simp) ?_
  simp only [ent]
  have O := of_c r
  simp only [Mod.tv_def]
  cases hs : r.spot.1 with
  | false =>
    rw [hs] at O hr
    simp only [Bool.false_eq_true, if_false] at hr
    obtain ⟨x, hx⟩ := at_ hr
    have hx1 := vget u1 hx
    rw [u1_def] at hx1
    have hf : m.fit r = ((x : Int) == 0) := by unfold Mod.fit; rw [hs]; simp [List.getD_eq_getElem?_getD, hx]
    rw [hf]
    rw [relE_def] at O ⊢
    have h2 : (0 : Int) ≤ r.a := by omega
    clear hf hx hr hm hs
    (repeat' (first | refine wk ?_ | refine wk2 ?_ ?_ | with_reducible refine wkF fun _ _ _ => ?_ | with_reducible intro _ | refine Calling.eq (O _) ?_ | exact ag | fail))
    exact fin0
  | true =>
    rw [hs] at O hr
    simp only [if_true] at hr
    obtain ⟨x, hx⟩ := at_ hr
    have hx1 := vget u1 hx
    rw [u1_def] at hx1
    have hf : m.fit r = if ((r.k : Int) == 0) || ((r.k : Int) == 7) then same5 (dec x) ⟨17, 0, 0, 0, 0⟩ else (((dec x).o : Int) == 2) && ((dec x).i == 0) := by unfold Mod.fit; rw [hs]; simp [List.getD_eq_getElem?_getD, hx]
    have D := fun H => decode_c (H := H) (hm.co x (List.mem_of_getElem? hx))
    rw [Ins.enc_def] at D
    rw [relE_def] at O ⊢
    have h2 : (0 : Int) ≤ r.a := by omega
    replace hf := later hf
    clear hx hr hm hs
    cases q1 : ((r.k : Int) == 0) <;> cases q2 : ((r.k : Int) == 7)
    all_goals
      have hf := hf.go
      rw [q1, q2] at hf
      simp only [Bool.or_true, Bool.or_false, Bool.false_eq_true, if_true, if_false] at hf
      rw [hf]
      clear hf
    case false.false =>
      cases q3 : (((dec x).o : Int) == 2)
      all_goals
        (repeat' (first | refine wk ?_ | refine wk2 ?_ ?_ | with_reducible refine wkF fun _ _ _ => ?_ | with_reducible intro _ | refine Calling.eq (O _) ?_ | refine Calling.eq (D _) ?_ | exact ag | fail))
        exact fin0
    all_goals
      (repeat' (first | refine wk ?_ | refine wk2 ?_ ?_ | with_reducible refine wkF fun _ _ _ => ?_ | with_reducible intro _ | refine Calling.eq (O _) ?_ | refine Calling.eq (D _) ?_ | exact ag | fail))
      refine fin1 ⟨?_, rfl⟩
      simp [resV, same5]
def Mod.thr (m : Mod) (r : Rlc) : Bool :=
  if ((r.k : Int) == 0) || (((r.k : Int) == 1) || ((r.k : Int) == 4)) then decide ((r.w : Int) < m.im.length) else if ((r.k : Int) == 2) || ((r.k : Int) == 5) then decide ((r.w : Int) < m.da.length) else decide ((r.w : Int) < m.co.length)
theorem u16_i64 {x : Nat} (h : x < 65536) : IntKind.i64.wrap (x : Int) = x := wi64 (by omega) (by omega)
theorem there_c (m : Mod) (r : Rlc) (hw : r.w < 65536) (H : Heap) : AC Tryd.prog 74 [m.tv, .agg (relE r)] H (fun x H' => x = .s (.bool (m.thr r)) ∧ H' = H) := by
  refine AC.body Tryd.func74 rfl rfl (n := 35) (res := [.tmp 4]) rfl rfl (by simp) ?_
  simp only [ent]
  simp only [Mod.tv_def, relE_def]
  have e := u16_i64 hw
  (repeat' (first | refine wk ?_ | refine wk2 ?_ ?_ | with_reducible refine wkF fun _ _ _ => ?_ | with_reducible intro _ | exact ag | fail))
  all_goals
    refine fin1 ⟨?_, rfl⟩
    first | rfl | (simp only [resV, Mod.thr, *, Bool.or_false, Bool.or_true, Bool.false_or, Bool.true_or, Bool.and_false, Bool.and_true, Bool.false_and, Bool.true_and, Bool.not_true, Bool.not_false, Bool.false_eq_true, if_true, if_false]; done) | (simp only [resV, Mod.thr]; simp_all; done) | (simp only [resV, Mod.thr]; simp_all <;> omega)
def spotV (p : Bool × Nat) : Value := .agg #[.bool p.1, .int .u16 p.2]
theorem eqSp (a c : Bool) (b d : Int) : eqTV Tryd.prog 9 122 (.agg [.s (.bool a), .s (.int .u16 b)]) (.agg [.s (.bool c), .s (.int .u16 d)]) = some ((a == c) && ((b == d) && true)) := by kernel_rfl
theorem rep_spot (w : World) (F : Nat → Prop) (p : Bool × Nat) : Rep w F (.agg [.s (.bool p.1), .s (.int .u16 p.2)]) (spotV p) := by
  simp only [Rep, RepL, spotV]; exact ⟨_, rfl, _, _, rfl, rfl, _, _, rfl, rfl, rfl⟩
theorem spotK : KeyP Tryd.prog 122 spotV where
  eq := fun w a b => by
    have h := eqTV_run (P := Tryd.prog) (w := w) (F := fun _ => True) (d' := 9991) (eqSp a.1 b.1 a.2 b.2) (rep_spot w _ a) (rep_spot w _ b)
    have e : ((a.1 == b.1) && (((a.2 : Int) == (b.2 : Int)) && true)) = decide (a = b) := by
      obtain ⟨x, y⟩ := a; obtain ⟨z, u⟩ := b
      rw [Bool.eq_iff_iff]; simp; intro _; omega
    rw [e] at h
    exact h
  chk := fun w e a => rfl
  under := ⟨_, rfl, fun a b => .inl rfl⟩
  same := fun a => by simp [Instr.sameBits, spotV]
end Go.Abs
/- Modules that are looked at: relocations in a loop, and all in all. -/
namespace Go.Abs
set_option linter.unusedSimpArgs false
set_option linter.unusedVariables false
set_option maxHeartbeats 4000000
open Go.Proofs Go.Nm Go.Wd
set_option linter.unusedVariables false
set_option maxRecDepth 8000
variable {H : Heap}
theorem w16 {x : Int} (h0 : 0 ≤ x) (h1 : x < 65536) : IntKind.u16.wrap x = x := by rw [IntKind.wrap_u16]; omega
def inB {α : Type} [DecidableEq α] (k : α) (ks : List α) : Bool := decide (k ∈ ks)
theorem oc_hasB {P : Program} {d : Option Tmp} {ty : TypeId} {pos : String} {aft : Array Edge} {g : Option (Nat × Bool)} {α : Type} [DecidableEq α] {kt e t : TypeId} {enc : α → Value} {q : Bool} {k : α} {ks : List α} (hq : inB k ks = q) (K : KeyP P kt enc) (ht : P.underlying t = some (.map kt e)) (hz : zeroT P e = some (.s (.bool false))) {m : Nat} (hm : H m = some (setR enc ks)) {kT : TV} (hkT : ∀ w F v, Rep w F kT v → v = enc k)
    {s x : Operand} : OC P ⟨d, .lookup t s x false, ty, pos, aft, g⟩ [.s (.map (some m)), kT] H (fun r H' => r = .s (.bool q) ∧ H' = H) := by
  subst hq; exact oc_has K ht hz hm hkT
theorem oc_putN {P : Program} {d : Option Tmp} {ty : TypeId} {pos : String} {aft : Array Edge} {g : Option (Nat × Bool)} {α : Type} [DecidableEq α] {kt e t : TypeId} {enc : α → Value} {k : α} {ks : List α} (hq : inB k ks = false) (K : KeyP P kt enc) (ht : P.underlying t = some (.map kt e)) {m : Nat} (hm : H m = some (setR enc ks)) {kT : TV} (hkT : ∀ w F v, Rep w F kT v → v = enc k)
    {s x y : Operand} : OC P ⟨d, .mapUpdate t s x y, ty, pos, aft, g⟩ [.s (.map (some m)), kT, .s (.bool true)] H (fun r H' => r = .any ∧ H' = upd H m (setR enc (ks ++ [k]))) := by
  have h := oc_put (d := d) (ty := ty) (pos := pos) (aft := aft) (g := g) (s := s) (x := x) (y := y) K ht hm hkT
  rw [if_neg (by simpa [inB] using hq)] at h
  exact h
def Mod.cells (m : Mod) : List TV := [.s (.string m.nm), .vs 1 (m.ex.map s1), .vs 1 (m.im.map s1), .vs 1 (m.co.map u1), .vs 1 (m.da.map u1), .vs 3 (m.re.map relE)]
theorem nfit_c (m : Mod) (hm : m.ok) (r : Rlc) (hr : r.a < if r.spot.1 then m.co.length else m.da.length) {v : Nat} (hv : H v = some (.cells m.cells)) : AC Tryd.prog 71 [.agg (relE r), .s (.pointer (some ⟨v, 0, none⟩))] H (fun x H' => x = .s (.bool (!m.fit r)) ∧ H' = H) := by
  refine AC.body Tryd.func71 rfl rfl (n := 8) (res := [.tmp 3]) rfl rfl (by simp) ?_
  simp only [ent]
  have F := fun H => fits_c' m hm r hr H
  simp only [Mod.tv_def, Mod.cells] at F hv
  rw [relE_def] at F ⊢
  clear hr hm
  (repeat' (first | refine wk ?_ | refine wk2 ?_ ?_ | with_reducible refine wkF fun _ _ _ => ?_ | with_reducible intro _ | refine Calling.eq (F _) ?_ | exact ag | fail))
  exact fin0
theorem nthere_c (m : Mod) (r : Rlc) (hw : r.w < 65536) {v : Nat} (hv : H v = some (.cells m.cells)) : AC Tryd.prog 73 [.agg (relE r), .s (.pointer (some ⟨v, 0, none⟩))] H (fun x H' => x = .s (.bool (!m.thr r)) ∧ H' = H) := by
  refine AC.body Tryd.func73 rfl rfl (n := 8) (res := [.tmp 3]) rfl rfl (by simp) ?_
  simp only [ent]
  have F := fun H => there_c m r hw H
  simp only [Mod.tv_def, Mod.cells] at F hv
  rw [relE_def] at F ⊢
  clear hw
  (repeat' (first | refine wk ?_ | refine wk2 ?_ ?_ | with_reducible refine wkF fun _ _ _ => ?_ | with_reducible intro _ | refine Calling.eq (F _) ?_ | exact ag | fail))
  exact fin0
def Mod.len (m : Mod) (r : Rlc) : Nat := if r.spot.1 then m.co.length else m.da.length
/-- A relocation whose word was named ahead, or is not there. -/
def Mod.badP (m : Mod) (i : Nat) : Bool := match m.re[i]? with
  | some r => inB r.spot ((m.re.take i).map Rlc.spot) || decide (((m.len r : Nat) : Int) ≤ (r.a : Int))
  | none => false
/-- A Call that no relocation names. -/
def Mod.loose (m : Mod) (i : Nat) : Bool := match m.co[i]? with
  | some w => (((dec w).o : Int) == 17) && !(inB (true, i) (m.re.map Rlc.spot))
  | none => false
def Mod.rel (m : Mod) : Int × Int :=
  if decide (0 ≤ fi m.badP (List.range m.re.length)) then (6, fi m.badP (List.range m.re.length)) else if decide (0 ≤ fi (fun r => !m.fit r) m.re) then (7, fi (fun r => !m.fit r) m.re)
  else if decide (0 ≤ fi (fun r => !m.thr r) m.re) then (8, fi (fun r => !m.thr r) m.re) else if decide (0 ≤ fi m.loose (List.range m.co.length)) then (9, fi m.loose (List.range m.co.length)) else (0, 0)
theorem spots_succ {m : Mod} {i : Nat} {r : Rlc} (h : m.re[i]? = some r) : (m.re.take i).map Rlc.spot ++ [r.spot] = (m.re.take (i + 1)).map Rlc.spot := by
  obtain ⟨hi, he⟩ := List.getElem?_eq_some_iff.1 h
  rw [List.take_add_one, h]; simp
theorem spot_a (r : Rlc) : r.spot.2 = r.a := rfl
set_option maxHeartbeats 2000000 in
theorem relocs_c (m : Mod) (hm : m.ok) (hco : m.co.length ≤ 512) (H : Heap) : AC Tryd.prog 50 [m.tv] H (fun x H' => x = .tup [.s (.int .u8 m.rel.1), .s (.int .i64 m.rel.2)] ∧ H' = H) := by
  refine AC.body Tryd.func50 rfl rfl (n := 88) (res := [.tmp 2, .tmp 3]) rfl rfl (by simp) ?_
  simp only [ent]
  simp only [Mod.tv_def]
  have hlre := hm.lre
  have hlco := hm.lco
  have hlda := hm.lda
  have hrs := later hm.re
  have hcs := later hm.co
  have hm' := later hm
  clear hm
  have hrel : m.rel = if decide (0 ≤ fi m.badP (List.range m.re.length)) then (6, fi m.badP (List.range m.re.length)) else if decide (0 ≤ fi (fun r => !m.fit r) m.re) then (7, fi (fun r => !m.fit r) m.re)
    else if decide (0 ≤ fi (fun r => !m.thr r) m.re) then (8, fi (fun r => !m.thr r) m.re) else if decide (0 ≤ fi m.loose (List.range m.co.length)) then (9, fi m.loose (List.range m.co.length)) else (0, 0) := rfl
  replace hrel := later hrel
  (repeat' (first | refine wk ?_ | refine wk2 ?_ ?_ | with_reducible refine wkF fun _ _ _ => ?_ | with_reducible intro _ | refine Doing.fresh (oc_makeSet spotV) fun _ _ _ => ?_ | exact ag | fail))
  rename_i v hv hvn b hb hbn
  refine ARun.rounds (fun i : Nat => ⟨[(1, .s (.pointer (some ⟨v, 0, none⟩))), (4, .s (.map (some b))), (17, .vs 3 (m.re.map relE)), (18, .s (.int .i64 m.re.length)), (19, .s (.int .i64 i))],
    upd (upd H v (.cells m.cells)) b (setR spotV ((m.re.take i).map Rlc.spot))⟩) (fun i => m.re.length - i) (fun i => i ≤ m.re.length ∧ noneB m.badP (List.range m.re.length) i) ?_ 0 ⟨by omega, .zero⟩ ?_
  · rintro i ⟨hi, hno⟩ next
    replace hno := later hno
    by_cases hlt : i < m.re.length
    · have h1 : (i : Int) < m.re.length := by omega
      have h2 : (0 : Int) ≤ i := by omega
      obtain ⟨x, hx⟩ := at_ hlt
      have hx1 := vget relE hx
      rw [relE_def] at hx1
      have hw := w64s (i := i) (by omega)
      have O := of_c x
      rw [relE_def] at O
      simp only [spot_a] at O
      have hsp : x.spot = (x.spot.1, x.a) := rfl
      have hln : m.len x = if x.spot.1 then m.co.length else m.da.length := rfl
      generalize x.spot.1 = c at O hsp hln
      have hbad : m.badP i = (inB (c, x.a) ((m.re.take i).map Rlc.spot) || decide (((m.len x : Nat) : Int) ≤ (x.a : Int))) := by unfold Mod.badP; rw [hx]; simp only [hsp]
      have hsu := spots_succ hx
      rw [hsp] at hsu
      clear hsp
      have e16 := u16_i64 ((hrs.go x (List.mem_of_getElem? hx)).2.1)
      have e1 : decide ((m.co.length : Int) ≤ (x.a : Int)) = decide (((m.co.length : Nat) : Int) ≤ (x.a : Int)) := rfl
      cases hnm : inB (c, x.a) ((m.re.take i).map Rlc.spot) with
      | true =>
        rw [hnm, Bool.true_or] at hbad
        have hf := fi_some (range_get hlt) hbad hno.go
        have ht : m.rel = (6, (i : Int)) := by rw [hrel.go, hf, if_pos (by simp)]
        rw [ht]
        clear hx next hf ht hbad hln hsu e1
        simp only [Mod.cells]
        cases c
        all_goals
          (repeat' (first | refine wk ?_ | refine wk2 ?_ ?_ | with_reducible refine wkF fun _ _ _ => ?_ | with_reducible intro _ | refine Calling.eq (O _) ?_ | refine Doing.eq (oc_hasB hnm spotK um120 zt4 (ag) rep_agg2) ?_ | exact ag | fail))
          exact fin0
      | false =>
        rw [hnm, Bool.false_or] at hbad
        cases hla : decide (((m.len x : Nat) : Int) ≤ (x.a : Int)) with
        | true =>
          rw [hla] at hbad
          have hf := fi_some (range_get hlt) hbad hno.go
          have ht : m.rel = (6, (i : Int)) := by rw [hrel.go, hf, if_pos (by simp)]
          rw [ht]
          rw [hln] at hla
          clear hx next hf ht hbad hln hsu e1
          simp only [Mod.cells]
          cases c
          all_goals
            simp only [if_true, if_false, Bool.false_eq_true] at hla
            (repeat' (first | refine wk ?_ | refine wk2 ?_ ?_ | with_reducible refine wkF fun _ _ _ => ?_ | with_reducible intro _ | refine Calling.eq (O _) ?_ | refine Doing.eq (oc_hasB hnm spotK um120 zt4 (ag) rep_agg2) ?_ | exact ag | fail))
            exact fin0
        | false =>
          rw [hla] at hbad
          have hst : ∀ z, setR spotV ((m.re.take i).map Rlc.spot ++ [(c, x.a)]) = z → setR spotV ((m.re.take (i + 1)).map Rlc.spot) = z := fun z h => by rw [← hsu]; exact h
          rw [hln] at hla
          have nx := next.go (i + 1) ⟨by omega, hno.go.succ (range_get hlt) hbad⟩ (by omega)
          simp only [← hsu] at nx
          simp only [Mod.cells] at nx ⊢
          clear hx next hbad hln hsu e1
          cases c
          all_goals
            simp only [if_true, if_false, Bool.false_eq_true] at hla
            (repeat' (first | refine wk ?_ | refine wk2 ?_ ?_ | with_reducible refine wkF fun _ _ _ => ?_ | with_reducible intro _ | refine Calling.eq (O _) ?_ | refine Doing.eq (oc_hasB hnm spotK um120 zt4 (ag) rep_agg2) ?_ | refine Doing.eq (oc_putN hnm spotK um120 (ag) rep_agg2) ?_ | exact ag | fail))
            exact ARun.weaken nx (leK (by exact sb))
    · have h1 : decide ((i : Int) < m.re.length) = false := by simp; omega
      obtain rfl : i = m.re.length := by omega
      have hpl : ∀ r ∈ m.re, r.a < if r.spot.1 then m.co.length else m.da.length := by
        intro r hr
        obtain ⟨j, hj⟩ := List.mem_iff_getElem?.1 hr
        have hjl := (List.getElem?_eq_some_iff.1 hj).1
        have := hno.go j j hjl (range_get hjl)
        unfold Mod.badP at this
        rw [hj] at this
        have := (Bool.or_eq_false_iff.1 this).2
        have h3 := of_decide_eq_false this
        have h4 : (r.a : Int) < (m.len r : Nat) := by omega
        unfold Mod.len at h4
        omega
      have hf0 : fi m.badP (List.range m.re.length) = -1 := fi_end (by simp) hno.go
      replace hrel := hrel.go
      rw [hf0, if_neg (by decide)] at hrel
      rw [List.take_length]
      have e1 : ∀ (H : Heap), H v = some (.cells m.cells) → AC Tryd.prog 51 [.vs 3 (m.re.map relE), .clo (.func 71) [] [.s (.pointer (some ⟨v, 0, none⟩))]] H (fun r H' => r = .s (.int .i64 (fi (fun r => !m.fit r) m.re)) ∧ H' = H) :=
        fun H hv => ixfR_c m.re hlre _ _ _ H (fun x hx => nfit_c m hm'.go x (hpl x hx) hv)
      have e2 : ∀ (H : Heap), H v = some (.cells m.cells) → AC Tryd.prog 51 [.vs 3 (m.re.map relE), .clo (.func 73) [] [.s (.pointer (some ⟨v, 0, none⟩))]] H (fun r H' => r = .s (.int .i64 (fi (fun r => !m.thr r) m.re)) ∧ H' = H) :=
        fun H hv => ixfR_c m.re hlre _ _ _ H (fun x hx => nthere_c m x (hrs.go x hx).2.2 hv)
      have e1 := later e1
      have e2 := later e2
      clear hno next hpl hf0 hlt hi
      simp only [Mod.cells] at e1 e2 ⊢
      cases q1 : decide (0 ≤ fi (fun r => !m.fit r) m.re) with
      | true =>
        rw [q1, if_pos rfl] at hrel
        rw [hrel]
        clear hrel
        (repeat' (first | refine wk ?_ | refine wk2 ?_ ?_ | with_reducible refine wkF fun _ _ _ => ?_ | with_reducible intro _ | refine Calling.eq (e1.go _ (ag)) ?_ | exact ag | fail))
        exact fin0
      | false =>
        rw [q1, if_neg (by simp)] at hrel
        cases q2 : decide (0 ≤ fi (fun r => !m.thr r) m.re) with
        | true =>
          rw [q2, if_pos rfl] at hrel
          rw [hrel]
          clear hrel
          (repeat' (first | refine wk ?_ | refine wk2 ?_ ?_ | with_reducible refine wkF fun _ _ _ => ?_ | with_reducible intro _ | refine Calling.eq (e1.go _ (ag)) ?_ | refine Calling.eq (e2.go _ (ag)) ?_ | exact ag | fail))
          exact fin0
        | false =>
          rw [q2, if_neg (by simp)] at hrel
          replace hrel := later hrel
          (repeat' (first | refine wk ?_ | refine wk2 ?_ ?_ | with_reducible refine wkF fun _ _ _ => ?_ | with_reducible intro _ | refine Calling.eq (e1.go _ (ag)) ?_ | refine Calling.eq (e2.go _ (ag)) ?_ | exact ag | fail))
          clear e1 e2 q1 q2 h1
          refine ARun.rounds (fun i : Nat => ⟨[(4, .s (.map (some b))), (63, .vs 1 (m.co.map u1)), (64, .s (.int .i64 m.co.length)), (65, .s (.int .i64 i))],
            upd H b (setR spotV (m.re.map Rlc.spot))⟩) (fun i => m.co.length - i) (fun i => i ≤ m.co.length ∧ noneB m.loose (List.range m.co.length) i) ?_ 0 ⟨by omega, .zero⟩ ?_
          · rintro i ⟨hi, hno⟩ next
            replace hno := later hno
            have hbH : H b = none := by rw [upd_eq] at hb; split at hb; cases hb; exact hb
            clear hb hbn hv hvn
            by_cases hlt : i < m.co.length
            · have h1 : (i : Int) < m.co.length := by omega
              have h2 : (0 : Int) ≤ i := by omega
              obtain ⟨x, hx⟩ := at_ hlt
              have hx1 := vget u1 hx
              rw [u1_def] at hx1
              have hw := w64s (i := i) (by omega)
              have hw2 : IntKind.u16.wrap (i : Int) = i := w16 (by omega) (by omega)
              have D := fun H => decode_c (H := H) (hcs.go x (List.mem_of_getElem? hx))
              rw [Ins.enc_def] at D
              have hbad : m.loose i = ((((dec x).o : Int) == 17) && !(inB (true, i) (m.re.map Rlc.spot))) := by unfold Mod.loose; rw [hx]
              cases q1 : (((dec x).o : Int) == 17) with
              | false =>
                rw [q1, Bool.false_and] at hbad
                have nx := next.go (i + 1) ⟨by omega, hno.go.succ (range_get hlt) hbad⟩ (by omega)
                clear hx next hbad
                (repeat' (first | refine wk ?_ | refine wk2 ?_ ?_ | with_reducible refine wkF fun _ _ _ => ?_ | with_reducible intro _ | refine Calling.eq (D _) ?_ | exact ag | fail))
                exact ARun.weaken nx (leK (by exact sb))
              | true =>
                rw [q1, Bool.true_and] at hbad
                cases hnm : inB (true, i) (m.re.map Rlc.spot) with
                | false =>
                  rw [hnm] at hbad
                  have hf := fi_some (range_get hlt) hbad hno.go
                  have ht : m.rel = (9, (i : Int)) := by rw [hrel.go, hf, if_pos (by simp)]
                  rw [ht]
                  clear hx next hf ht hbad
                  (repeat' (first | refine wk ?_ | refine wk2 ?_ ?_ | with_reducible refine wkF fun _ _ _ => ?_ | with_reducible intro _ | refine Calling.eq (D _) ?_ | refine Doing.eq (oc_hasB hnm spotK um120 zt4 (ag) rep_agg2) ?_ | exact ag | fail))
                  exact fin0
                | true =>
                  rw [hnm] at hbad
                  have nx := next.go (i + 1) ⟨by omega, hno.go.succ (range_get hlt) hbad⟩ (by omega)
                  clear hx next hbad
                  (repeat' (first | refine wk ?_ | refine wk2 ?_ ?_ | with_reducible refine wkF fun _ _ _ => ?_ | with_reducible intro _ | refine Calling.eq (D _) ?_ | refine Doing.eq (oc_hasB hnm spotK um120 zt4 (ag) rep_agg2) ?_ | exact ag | fail))
                  exact ARun.weaken nx (leK (by exact sb))
            · have h1 : decide ((i : Int) < m.co.length) = false := by simp; omega
              have hA1 : fi m.loose (List.range m.co.length) = -1 := fi_end (by simp; omega) hno.go
              have ht : m.rel = (0, 0) := by rw [hrel.go, hA1]; rfl
              rw [ht]
              clear next hA1 ht
              (repeat' (first | refine wk ?_ | refine wk2 ?_ ?_ | with_reducible refine wkF fun _ _ _ => ?_ | with_reducible intro _ | exact ag | fail))
              exact fin0
          · exact leK (by exact sb)
  · exact leK (Sub.refl _)
end Go.Abs
/- Modules that are looked at, all in all. -/
namespace Go.Abs
set_option linter.unusedSimpArgs false
set_option linter.unusedVariables false
set_option maxHeartbeats 4000000
open Go.Proofs Go.Nm Go.Wd
set_option linter.unusedVariables false
set_option maxRecDepth 8000
variable {H : Heap}
/-- What is wrong with a module, and where. -/
def Mod.flt (m : Mod) : Int × Int :=
  if m.obj != 0 then (1, 0) else if m.txt.1 != 0 then m.txt else if m.wrd.1 != 0 then m.wrd else m.rel
theorem obj_small {m : Mod} (h : (m.obj != 0) = false) : m.ex.length ≤ 8 ∧ m.im.length ≤ 16 ∧ m.re.length ≤ 256 ∧ m.co.length ≤ 512 ∧ m.da.length ≤ 128 := by
  unfold Mod.obj at h
  by_cases a : (decide ((8 : Int) < m.ex.length) || (decide ((16 : Int) < m.im.length) || decide ((256 : Int) < m.re.length))) = true
  · rw [if_pos a] at h; cases h
  · rw [if_neg a] at h
    by_cases b : (decide ((512 : Int) < m.co.length) || decide ((128 : Int) < m.da.length)) = true
    · rw [if_pos b] at h; cases h
    · simp at a b; omega
theorem fi_all' {α : Type} {p : α → Bool} {l : List α} (h : decide (0 ≤ fi p l) = false) : ∀ x ∈ l, p x = false := by
  unfold fi at h
  cases hf : l.findIdx? p with
  | none => exact List.findIdx?_eq_none_iff.1 hf
  | some j => rw [hf] at h; simp at h
theorem obj_fits {m : Mod} (h : (m.obj != 0) = false) : (∀ s ∈ m.nm :: m.ex, fits s) ∧ ∀ s ∈ m.im, fits s := by
  unfold Mod.obj at h
  cases a : (decide ((8 : Int) < m.ex.length) || (decide ((16 : Int) < m.im.length) || decide ((256 : Int) < m.re.length))) with
  | true => rw [a, if_pos rfl] at h; cases h
  | false =>
    rw [a, if_neg (by decide)] at h
    cases b : (decide ((512 : Int) < m.co.length) || decide ((128 : Int) < m.da.length)) with
    | true => rw [b, if_pos rfl] at h; cases h
    | false =>
      rw [b, if_neg (by decide)] at h
      cases q1 : longB m.nm || (decide (0 ≤ fi longB m.ex) || decide (0 ≤ fi longB m.im)) with
      | true => rw [q1, if_pos rfl] at h; cases h
      | false =>
        simp only [Bool.or_eq_false_iff] at q1
        obtain ⟨a, b, c⟩ := q1
        have lf : ∀ s, longB s = false → fits s := fun s hs => by unfold longB at hs; unfold fits; simp at hs; omega
        exact ⟨fun s hs => by rcases List.mem_cons.1 hs with rfl | hs; exact lf _ a; exact lf s (fi_all' b s hs), fun s hs => lf s (fi_all' c s hs)⟩
theorem module_c {G : Heap} (g : GH G) (hs : Sub G H) (m : Mod) (hm : m.ok) : AC Tryd.prog 34 [m.tv] H (fun r H' => r = .tup [.s (.int .u8 m.flt.1), .s (.int .i64 m.flt.2)] ∧ H' = H) := by
  refine AC.body Tryd.func34 rfl rfl (n := 33) (res := [.tmp 2, .tmp 3]) rfl rfl (by simp) ?_
  simp only [ent]
  have O := fun H => obj_c m hm H
  cases q0 : (m.obj != 0) with
  | true =>
    have ht : m.flt = (1, 0) := by unfold Mod.flt; rw [if_pos q0]
    rw [ht]
    clear ht hm
    simp only [Mod.tv_def] at O ⊢
    (repeat' (first | refine wk ?_ | refine wk2 ?_ ?_ | with_reducible refine wkF fun _ _ _ => ?_ | with_reducible intro _ | refine Calling.eq (O _) ?_ | exact ag | fail))
    exact fin0
  | false =>
    obtain ⟨b1, b2, b3, b4, b5⟩ := obj_small q0
    have T := later fun (H : Heap) (hs : Sub G H) => texts_c g hs m hm (obj_fits q0).1 (obj_fits q0).2 (by omega) (by omega)
    have Wd := fun H => words_c m hm H
    have R := fun H => relocs_c m hm b4 H
    have ht : m.flt = if m.txt.1 != 0 then m.txt else if m.wrd.1 != 0 then m.wrd else m.rel := by unfold Mod.flt; rw [if_neg (by rw [q0]; decide)]
    clear hm b1 b2 b3 b4 b5
    simp only [Mod.tv_def] at O T Wd R ⊢
    cases q1 : (m.txt.1 != 0) with
    | true =>
      rw [if_pos q1] at ht
      rw [ht]
      clear ht
      (repeat' (first | refine wk ?_ | refine wk2 ?_ ?_ | with_reducible refine wkF fun _ _ _ => ?_ | with_reducible intro _ | exact ag | fail))
      rename_i v hv hvn
      have hsv : ∀ r, Sub G (upd H v r) := fun r => Sub.upd hs (hs.none hv)
      (repeat' (first | refine wk ?_ | refine wk2 ?_ ?_ | with_reducible refine wkF fun _ _ _ => ?_ | with_reducible intro _ | refine Calling.eq (O _) ?_ | refine Calling.eq (T.go _ (hsv _)) ?_ | exact ag | fail))
      exact fin0
    | false =>
      rw [if_neg (by rw [q1]; decide)] at ht
      cases q2 : (m.wrd.1 != 0) with
      | true =>
        rw [if_pos q2] at ht
        rw [ht]
        clear ht
        (repeat' (first | refine wk ?_ | refine wk2 ?_ ?_ | with_reducible refine wkF fun _ _ _ => ?_ | with_reducible intro _ | exact ag | fail))
        rename_i v hv hvn
        have hsv : ∀ r, Sub G (upd H v r) := fun r => Sub.upd hs (hs.none hv)
        (repeat' (first | refine wk ?_ | refine wk2 ?_ ?_ | with_reducible refine wkF fun _ _ _ => ?_ | with_reducible intro _ | refine Calling.eq (O _) ?_ | refine Calling.eq (T.go _ (hsv _)) ?_ | refine Calling.eq (Wd _) ?_ | exact ag | fail))
        exact fin0
      | false =>
        rw [if_neg (by rw [q2]; decide)] at ht
        rw [ht]
        clear ht
        (repeat' (first | refine wk ?_ | refine wk2 ?_ ?_ | with_reducible refine wkF fun _ _ _ => ?_ | with_reducible intro _ | exact ag | fail))
        rename_i v hv hvn
        have hsv : ∀ r, Sub G (upd H v r) := fun r => Sub.upd hs (hs.none hv)
        (repeat' (first | refine wk ?_ | refine wk2 ?_ ?_ | with_reducible refine wkF fun _ _ _ => ?_ | with_reducible intro _ | refine Calling.eq (O _) ?_ | refine Calling.eq (T.go _ (hsv _)) ?_ | refine Calling.eq (Wd _) ?_ | refine Calling.eq (R _) ?_ | exact ag | fail))
        exact fin0
def Mod.chk (m : Mod) : Int := if m.flt.1 != 0 then 20 else 0
theorem vCheck_c {G : Heap} (g : GH G) (hs : Sub G H) (m : Mod) (hm : m.ok) : AC Tryd.prog 15 [m.tv] H (fun r H' => r = .s (.int .i64 m.chk) ∧ H' = H) := by
  refine AC.body Tryd.func15 rfl rfl (n := 12) (res := [.tmp 2]) rfl rfl (by simp) ?_
  simp only [ent]
  have M := later fun (H : Heap) (hs : Sub G H) => module_c g hs m hm
  clear hm
  simp only [Mod.tv_def] at M ⊢
  (repeat' (first | refine wk ?_ | refine wk2 ?_ ?_ | with_reducible refine wkF fun _ _ _ => ?_ | with_reducible intro _ | exact ag | fail))
  rename_i v hv hvn
  have hsv : ∀ r, Sub G (upd H v r) := fun r => Sub.upd hs (hs.none hv)
  (repeat' (first | refine wk ?_ | refine wk2 ?_ ?_ | with_reducible refine wkF fun _ _ _ => ?_ | with_reducible intro _ | refine Calling.eq (M.go _ (hsv _)) ?_ | exact ag | fail))
  all_goals
    refine fin1 ⟨?_, rfl⟩
    first | rfl | (simp only [resV, Mod.chk, *, Bool.or_false, Bool.or_true, Bool.false_or, Bool.true_or, Bool.and_false, Bool.and_true, Bool.false_and, Bool.true_and, Bool.not_true, Bool.not_false, Bool.false_eq_true, if_true, if_false]; done) | (simp only [resV, Mod.chk]; simp_all; done) | (simp only [resV, Mod.chk]; simp_all <;> omega)
/-- May a module take another one's place? -/
def Mod.pat (m n : Mod) : Int := if m.ex = n.ex then 0 else 27
end Go.Abs
/- Names: what the references make. -/
namespace Go.Abs
set_option linter.unusedSimpArgs false
set_option linter.unusedVariables false
set_option maxHeartbeats 4000000
open Go.Proofs Go.Nm Go.RowKit Go.Lib
set_option linter.unusedVariables false
set_option maxRecDepth 8000
variable {H : Heap}
/-- The byte at a place. -/
abbrev by_ (s : ByteArray) (i : Nat) : Nat := (s.get! i).toNat
theorem by_lt (s : ByteArray) (i : Nat) : by_ s i < 256 := UInt8.toNat_lt _
theorem more_c {s : ByteArray} {i : Nat} (hf : fits s) : AC Tryd.prog 92 [.s (.string s), .s (.int .i64 i)] H (fun r H' => r = .s (.bool (decide (i < s.size) && decide (by_ s i / 64 = 2))) ∧ H' = H) := by
  refine AC.body Tryd.func92 rfl rfl (n := 16) (res := [.tmp 4]) rfl rfl (by simp) ?_
  simp only [ent]
  by_cases h : i < s.size
  · have h1 : (i : Int) < s.size := by omega
    have h8 := by_lt s i
    have e1 := u8_and192 ((by_ s i : Nat) : Int) (by omega) (by omega)
    have e2 : (((by_ s i : Nat) : Int) / 64 * 64 == 128) = decide (by_ s i / 64 = 2) := by rw [Bool.eq_iff_iff]; simp; omega
    have e3 : decide (i < s.size) = true := by simpa using h
    (repeat' (first | refine wk ?_ | refine wk2 ?_ ?_ | with_reducible refine wkF fun _ _ _ => ?_ | with_reducible intro _ | exact ag | fail))
    exact fin0
  · have h1 : decide ((i : Int) < s.size) = false := by simp; omega
    have e3 : decide (i < s.size) = false := by simpa using h
    clear h
    (repeat' (first | refine wk ?_ | refine wk2 ?_ ?_ | with_reducible refine wkF fun _ _ _ => ?_ | with_reducible intro _ | exact ag | fail))
    exact fin0
theorem more1 {s : ByteArray} {i : Nat} {k : Int} (hk : ((i : Nat) : Int) = k) (hf : fits s) {b : Bool} (hb : (decide (i < s.size) && decide (by_ s i / 64 = 2)) = b) (H : Heap) : AC Tryd.prog 92 [.s (.string s), .s (.int .i64 k)] H (fun r H' => r = .s (.bool b) ∧ H' = H) := by
  subst hk hb; exact more_c hf
theorem cast_ {x : Nat} (h : x < 256) : IntKind.i64.wrap ((x : Nat) : Int) = ((x : Nat) : Int) := wi64 (by omega) (by omega)
theorem rv_of {s : ByteArray} {n k : Nat} (h : decodeN s.size (by_ s 0) (by_ s 1) (by_ s 2) (by_ s 3) = (n, k)) (hn : ¬ (k = 1 ∧ n = 65533)) : rv s 0 = n ∧ (Utf8.decode s 0).2 = k := by
  unfold rv; rw [decode_at]
  simp only [Nat.zero_add, Nat.sub_zero]
  rw [h, if_neg hn]; exact ⟨rfl, rfl⟩
theorem rv_bad {s : ByteArray} (h : decodeN s.size (by_ s 0) (by_ s 1) (by_ s 2) (by_ s 3) = (65533, 1)) : rv s 0 = -1 ∧ (Utf8.decode s 0).2 = 1 := by
  unfold rv; rw [decode_at]
  simp only [Nat.zero_add, Nat.sub_zero]
  rw [h]; exact ⟨rfl, rfl⟩
theorem s6 {x : Int} (h0 : 0 ≤ x) (h1 : x < 1000000) : shlK .i64 x 6 = x * 64 := by unfold shlK; rw [show min (6 : Int).toNat IntKind.i64.bits = 6 from rfl, wi64 (by omega) (by omega)]; rfl
theorem s12 {x : Int} (h0 : 0 ≤ x) (h1 : x < 1000000) : shlK .i64 x 12 = x * 4096 := by unfold shlK; rw [show min (12 : Int).toNat IntKind.i64.bits = 12 from rfl, wi64 (by omega) (by omega)]; rfl
theorem s18 {x : Int} (h0 : 0 ≤ x) (h1 : x < 1000000) : shlK .i64 x 18 = x * 262144 := by unfold shlK; rw [show min (18 : Int).toNat IntKind.i64.bits = 18 from rfl, wi64 (by omega) (by omega)]; rfl
theorem v2 {x y : Nat} (hx : x < 256) (hy : y < 64) : Go.bits .or .i64 (shlK .i64 (Go.bits .and .i64 (x : Int) 31) 6) (y : Int) = ((x % 32 * 64 + y : Nat) : Int) := by
  rw [i64_and31 _ (by omega) (by omega), s6 (by omega) (by omega), i64_or6 ((x : Int) % 32 * 64) y (by omega) (by omega) (by omega) (by omega) (by omega)]; simp
theorem v3 {x y z : Nat} (hx : x < 256) (hy : y < 64) (hz : z < 64) : Go.bits .or .i64 (Go.bits .or .i64 (shlK .i64 (Go.bits .and .i64 (x : Int) 15) 12) (shlK .i64 (y : Int) 6)) (z : Int) = ((x % 16 * 4096 + y * 64 + z : Nat) : Int) := by
  rw [i64_and15 _ (by omega) (by omega), s12 (by omega) (by omega), s6 (by omega) (by omega), i64_or12 ((x : Int) % 16 * 4096) ((y : Int) * 64) (by omega) (by omega) (by omega) (by omega) (by omega), i64_or6 ((x : Int) % 16 * 4096 + y * 64) z (by omega) (by omega) (by omega) (by omega) (by omega)]; simp
theorem v4 {x y z u : Nat} (hx : x < 256) (hy : y < 64) (hz : z < 64) (hu : u < 64) : Go.bits .or .i64 (Go.bits .or .i64 (Go.bits .or .i64 (shlK .i64 (Go.bits .and .i64 (x : Int) 7) 18) (shlK .i64 (y : Int) 12)) (shlK .i64 (z : Int) 6)) (u : Int) = ((x % 8 * 262144 + y * 4096 + z * 64 + u : Nat) : Int) := by
  rw [i64_and7 _ (by omega) (by omega), s18 (by omega) (by omega), s12 (by omega) (by omega), s6 (by omega) (by omega), i64_or18 ((x : Int) % 8 * 262144) ((y : Int) * 4096) (by omega) (by omega) (by omega) (by omega) (by omega), i64_or12 ((x : Int) % 8 * 262144 + y * 4096) ((z : Int) * 64) (by omega) (by omega) (by omega) (by omega) (by omega), i64_or6 ((x : Int) % 8 * 262144 + y * 4096 + z * 64) u (by omega) (by omega) (by omega) (by omega) (by omega)]; simp
set_option maxHeartbeats 2000000 in
theorem one_c {s : ByteArray} (h : 0 < s.size) (hf : fits s) : AC Tryd.prog 81 [.s (.string s)] H (fun r H' => r = .tup [.s (.int .i64 (rv s 0)), .s (.int .i64 ((Utf8.decode s 0).2 : Nat))] ∧ H' = H) := by
  refine AC.body Tryd.func81 rfl rfl (n := 119) (res := [.tmp 2, .tmp 3]) rfl rfl (by simp) ?_
  simp only [ent]
  have r0 := by_lt s 0
  have r1 := by_lt s 1
  have r2 := by_lt s 2
  have r3 := by_lt s 3
  have hc := cast_ r0
  have bad := rv_bad (s := s)
  have good := fun n k => rv_of (s := s) (n := n) (k := k)
  have M1 := fun b hb => more1 (s := s) (i := 1) (k := 1) rfl hf (b := b) hb
  have M2 := fun b hb => more1 (s := s) (i := 2) (k := 2) rfl hf (b := b) hb
  have M3 := fun b hb => more1 (s := s) (i := 3) (k := 3) rfl hf (b := b) hb
  have X1 : 1 < s.size → IntKind.i64.wrap (Go.bits .and .u8 ((by_ s 1 : Nat) : Int) 63) = ((by_ s 1 % 64 : Nat) : Int) := fun _ => by rw [u8_and63 (x := ((by_ s 1 : Nat) : Int)) (by omega) (by omega), wi64 (by omega) (by omega)]; simp
  have X2 : IntKind.i64.wrap (Go.bits .and .u8 ((by_ s 2 : Nat) : Int) 63) = ((by_ s 2 % 64 : Nat) : Int) := by rw [u8_and63 (x := ((by_ s 2 : Nat) : Int)) (by omega) (by omega), wi64 (by omega) (by omega)]; simp
  have X3 : IntKind.i64.wrap (Go.bits .and .u8 ((by_ s 3 : Nat) : Int) 63) = ((by_ s 3 % 64 : Nat) : Int) := by rw [u8_and63 (x := ((by_ s 3 : Nat) : Int)) (by omega) (by omega), wi64 (by omega) (by omega)]; simp
  by_cases h128 : by_ s 0 < 128
  · obtain ⟨g1, g2⟩ := good (by_ s 0) 1 (by unfold decodeN; rw [if_pos h128]) (by omega)
    rw [g1, g2]
    have h1 : ((by_ s 0 : Nat) : Int) < 128 := by omega
    clear good bad M1 M2 M3 X1 g1 g2
    (repeat' (first | refine wk ?_ | refine wk2 ?_ ?_ | with_reducible refine wkF fun _ _ _ => ?_ | with_reducible intro _ | exact ag | fail))
    exact fin0
  have d128 : decide (((by_ s 0 : Nat) : Int) < 128) = false := by simp; omega
  by_cases h194 : by_ s 0 < 194
  · obtain ⟨g1, g2⟩ := bad (by
      unfold decodeN
      rw [if_neg h128]
      by_cases q : by_ s 0 / 32 = 6 ∧ (1 < s.size ∧ by_ s 1 / 64 = 2)
      · rw [if_pos q, if_neg (by omega)]
      · rw [if_neg q, if_neg (by omega), if_neg (by omega)])
    rw [g1, g2]
    have e1 : decide ((194 : Int) ≤ ((by_ s 0 : Nat) : Int)) = false := by simp; omega
    have e2 : decide ((224 : Int) ≤ ((by_ s 0 : Nat) : Int)) = false := by simp; omega
    have e3 : decide ((240 : Int) ≤ ((by_ s 0 : Nat) : Int)) = false := by simp; omega
    clear good bad M1 M2 M3 X1 g1 g2
    (repeat' (first | refine wk ?_ | refine wk2 ?_ ?_ | with_reducible refine wkF fun _ _ _ => ?_ | with_reducible intro _ | exact ag | fail))
    exact fin0
  have e194 : (194 : Int) ≤ ((by_ s 0 : Nat) : Int) := by omega
  by_cases h224 : by_ s 0 < 224
  · have e223 : ((by_ s 0 : Nat) : Int) ≤ 223 := by omega
    have e2 : decide ((224 : Int) ≤ ((by_ s 0 : Nat) : Int)) = false := by simp; omega
    have e3 : decide ((240 : Int) ≤ ((by_ s 0 : Nat) : Int)) = false := by simp; omega
    by_cases m1 : 1 < s.size ∧ by_ s 1 / 64 = 2
    · obtain ⟨g1, g2⟩ := good (by_ s 0 % 32 * 64 + by_ s 1 % 64) 2 (by unfold decodeN; rw [if_neg h128, if_pos ⟨by omega, m1⟩, if_pos (by omega)]) (by omega)
      rw [g1, g2]
      have M1 := M1 true (by simp [m1])
      have x1 := X1 m1.1
      have v1 : Go.bits .or .i64 (shlK .i64 (Go.bits .and .i64 ((by_ s 0 : Nat) : Int) 31) 6) ((by_ s 1 % 64 : Nat) : Int) = ((by_ s 0 % 32 * 64 + by_ s 1 % 64 : Nat) : Int) := v2 r0 (by omega)
      have m1' := m1.1
      clear good bad M2 M3 X1 X2 X3 g1 g2 m1
      (repeat' (first | refine wk ?_ | refine wk2 ?_ ?_ | with_reducible refine wkF fun _ _ _ => ?_ | with_reducible intro _ | refine Calling.eq (M1 _) ?_ | exact ag | fail))
      exact fin0
    · obtain ⟨g1, g2⟩ := bad (by unfold decodeN; rw [if_neg h128, if_neg (by omega), if_neg (by omega), if_neg (by omega)])
      rw [g1, g2]
      have M1 := M1 false (by
        rw [Bool.eq_false_iff]; intro q; simp only [Bool.and_eq_true, decide_eq_true_eq] at q; exact m1 q)
      clear good bad M2 M3 X1 X2 X3 g1 g2 m1
      (repeat' (first | refine wk ?_ | refine wk2 ?_ ?_ | with_reducible refine wkF fun _ _ _ => ?_ | with_reducible intro _ | refine Calling.eq (M1 _) ?_ | exact ag | fail))
      exact fin0
  have d223 : decide (((by_ s 0 : Nat) : Int) ≤ 223) = false := by simp; omega
  have e224 : (224 : Int) ≤ ((by_ s 0 : Nat) : Int) := by omega
  by_cases h240 : by_ s 0 < 240
  · have e239 : ((by_ s 0 : Nat) : Int) ≤ 239 := by omega
    have e3 : decide ((240 : Int) ≤ ((by_ s 0 : Nat) : Int)) = false := by simp; omega
    by_cases m1 : 1 < s.size ∧ by_ s 1 / 64 = 2
    · have M1 := M1 true (by simp [m1])
      by_cases m2 : 2 < s.size ∧ by_ s 2 / 64 = 2
      · have M2 := M2 true (by simp [m2])
        have x1 := X1 m1.1
        have v1 : Go.bits .or .i64 (Go.bits .or .i64 (shlK .i64 (Go.bits .and .i64 ((by_ s 0 : Nat) : Int) 15) 12) (shlK .i64 ((by_ s 1 % 64 : Nat) : Int) 6)) ((by_ s 2 % 64 : Nat) : Int) = ((by_ s 0 % 16 * 4096 + by_ s 1 % 64 * 64 + by_ s 2 % 64 : Nat) : Int) := v3 r0 (by omega) (by omega)
        have hd : decodeN s.size (by_ s 0) (by_ s 1) (by_ s 2) (by_ s 3) = if by_ s 0 % 16 * 4096 + by_ s 1 % 64 * 64 + by_ s 2 % 64 ≥ 2048 ∧ (by_ s 0 % 16 * 4096 + by_ s 1 % 64 * 64 + by_ s 2 % 64 < 55296 ∨ (57344 ≤ by_ s 0 % 16 * 4096 + by_ s 1 % 64 * 64 + by_ s 2 % 64 ∧ by_ s 0 % 16 * 4096 + by_ s 1 % 64 * 64 + by_ s 2 % 64 ≤ 1114111)) then (by_ s 0 % 16 * 4096 + by_ s 1 % 64 * 64 + by_ s 2 % 64, 3) else (65533, 1) := by
          unfold decodeN
          rw [if_neg h128, if_neg (by omega), if_pos ⟨by omega, m1, m2⟩]
        have m1' := m1.1
        have m2' := m2.1
        clear M3 X1 m1 m2
        have hlt : by_ s 0 % 16 * 4096 + by_ s 1 % 64 * 64 + by_ s 2 % 64 < 65536 := by omega
        generalize by_ s 0 % 16 * 4096 + by_ s 1 % 64 * 64 + by_ s 2 % 64 = N at *
        by_cases q : 2048 ≤ N ∧ (N < 55296 ∨ 57344 ≤ N)
        · obtain ⟨g1, g2⟩ := good N 3 (by rw [hd, if_pos (by omega)]) (by omega)
          rw [g1, g2]
          have q1 : (2048 : Int) ≤ (N : Int) := by omega
          by_cases q2 : N < 55296
          · have q2' : (N : Int) < 55296 := by omega
            clear good bad g1 g2 hd q q2
            (repeat' (first | refine wk ?_ | refine wk2 ?_ ?_ | with_reducible refine wkF fun _ _ _ => ?_ | with_reducible intro _ | refine Calling.eq (M1 _) ?_ | refine Calling.eq (M2 _) ?_ | exact ag | fail))
            refine ARun.drawB mixed [([], [0, 1, 2, 3, 4, 5, 6, 7, 8, 9, 10, 11, 12, 13, 14], none)] (by kernel_rfl) (by rfl) ?_
            (repeat' (first | refine wk ?_ | refine wk2 ?_ ?_ | with_reducible refine wkF fun _ _ _ => ?_ | with_reducible intro _ | exact ag | fail))
            exact fin0
          · have q2' : decide ((N : Int) < 55296) = false := by simp; omega
            have q3' : (57343 : Int) < (N : Int) := by omega
            clear good bad g1 g2 hd q q2
            (repeat' (first | refine wk ?_ | refine wk2 ?_ ?_ | with_reducible refine wkF fun _ _ _ => ?_ | with_reducible intro _ | refine Calling.eq (M1 _) ?_ | refine Calling.eq (M2 _) ?_ | exact ag | fail))
            refine ARun.drawB mixed [([], [0, 1, 2, 3, 4, 5, 6, 7, 8, 9, 10, 11, 12, 13, 14], none)] (by kernel_rfl) (by rfl) ?_
            (repeat' (first | refine wk ?_ | refine wk2 ?_ ?_ | with_reducible refine wkF fun _ _ _ => ?_ | with_reducible intro _ | exact ag | fail))
            exact fin0
        · obtain ⟨g1, g2⟩ := bad (by rw [hd, if_neg (by omega)])
          rw [g1, g2]
          by_cases q1 : 2048 ≤ N
          · have q1' : (2048 : Int) ≤ (N : Int) := by omega
            have q2' : decide ((N : Int) < 55296) = false := by simp; omega
            have q3' : decide ((57343 : Int) < (N : Int)) = false := by simp; omega
            clear good bad g1 g2 hd q q1
            (repeat' (first | refine wk ?_ | refine wk2 ?_ ?_ | with_reducible refine wkF fun _ _ _ => ?_ | with_reducible intro _ | refine Calling.eq (M1 _) ?_ | refine Calling.eq (M2 _) ?_ | exact ag | fail))
            refine ARun.drawB mixed [([], [0, 1, 2, 3, 4, 5, 6, 7, 8, 9, 10, 11, 12, 13, 14], none)] (by kernel_rfl) (by rfl) ?_
            (repeat' (first | refine wk ?_ | refine wk2 ?_ ?_ | with_reducible refine wkF fun _ _ _ => ?_ | with_reducible intro _ | exact ag | fail))
            exact fin0
          · have q1' : decide ((2048 : Int) ≤ (N : Int)) = false := by simp; omega
            clear good bad g1 g2 hd q q1
            (repeat' (first | refine wk ?_ | refine wk2 ?_ ?_ | with_reducible refine wkF fun _ _ _ => ?_ | with_reducible intro _ | refine Calling.eq (M1 _) ?_ | refine Calling.eq (M2 _) ?_ | exact ag | fail))
            refine ARun.drawB mixed [([], [0, 1, 2, 3, 4, 5, 6, 7, 8, 9, 10, 11, 12, 13, 14], none)] (by kernel_rfl) (by rfl) ?_
            (repeat' (first | refine wk ?_ | refine wk2 ?_ ?_ | with_reducible refine wkF fun _ _ _ => ?_ | with_reducible intro _ | exact ag | fail))
            exact fin0
      · obtain ⟨g1, g2⟩ := bad (by unfold decodeN; rw [if_neg h128, if_neg (by omega), if_neg (by omega), if_neg (by omega)])
        rw [g1, g2]
        have M2 := M2 false (by
          rw [Bool.eq_false_iff]; intro q; simp only [Bool.and_eq_true, decide_eq_true_eq] at q; exact m2 q)
        clear good bad M3 X1 X2 X3 g1 g2 m1 m2
        (repeat' (first | refine wk ?_ | refine wk2 ?_ ?_ | with_reducible refine wkF fun _ _ _ => ?_ | with_reducible intro _ | refine Calling.eq (M1 _) ?_ | refine Calling.eq (M2 _) ?_ | exact ag | fail))
        exact fin0
    · obtain ⟨g1, g2⟩ := bad (by unfold decodeN; rw [if_neg h128, if_neg (by omega), if_neg (by omega), if_neg (by omega)])
      rw [g1, g2]
      have M1 := M1 false (by
        rw [Bool.eq_false_iff]; intro q; simp only [Bool.and_eq_true, decide_eq_true_eq] at q; exact m1 q)
      clear good bad M2 M3 X1 X2 X3 g1 g2 m1
      (repeat' (first | refine wk ?_ | refine wk2 ?_ ?_ | with_reducible refine wkF fun _ _ _ => ?_ | with_reducible intro _ | refine Calling.eq (M1 _) ?_ | exact ag | fail))
      exact fin0
  have d239 : decide (((by_ s 0 : Nat) : Int) ≤ 239) = false := by simp; omega
  have e240 : (240 : Int) ≤ ((by_ s 0 : Nat) : Int) := by omega
  by_cases h244 : 244 < by_ s 0
  · obtain ⟨g1, g2⟩ := bad (by
      unfold decodeN
      rw [if_neg h128, if_neg (by omega), if_neg (by omega)]
      by_cases q : by_ s 0 / 8 = 30 ∧ (1 < s.size ∧ by_ s 1 / 64 = 2) ∧ (2 < s.size ∧ by_ s 2 / 64 = 2) ∧ (3 < s.size ∧ by_ s 3 / 64 = 2)
      · rw [if_pos q, if_neg (by omega)]
      · rw [if_neg q])
    rw [g1, g2]
    have d244 : decide (((by_ s 0 : Nat) : Int) ≤ 244) = false := by simp; omega
    clear good bad M1 M2 M3 X1 X2 X3 g1 g2
    (repeat' (first | refine wk ?_ | refine wk2 ?_ ?_ | with_reducible refine wkF fun _ _ _ => ?_ | with_reducible intro _ | exact ag | fail))
    exact fin0
  have e244 : ((by_ s 0 : Nat) : Int) ≤ 244 := by omega
  by_cases m1 : 1 < s.size ∧ by_ s 1 / 64 = 2
  · have M1 := M1 true (by simp [m1])
    by_cases m2 : 2 < s.size ∧ by_ s 2 / 64 = 2
    · have M2 := M2 true (by simp [m2])
      by_cases m3 : 3 < s.size ∧ by_ s 3 / 64 = 2
      · have M3 := M3 true (by simp [m3])
        have x1 := X1 m1.1
        have v1 : Go.bits .or .i64 (Go.bits .or .i64 (Go.bits .or .i64 (shlK .i64 (Go.bits .and .i64 ((by_ s 0 : Nat) : Int) 7) 18) (shlK .i64 ((by_ s 1 % 64 : Nat) : Int) 12)) (shlK .i64 ((by_ s 2 % 64 : Nat) : Int) 6)) ((by_ s 3 % 64 : Nat) : Int) = ((by_ s 0 % 8 * 262144 + by_ s 1 % 64 * 4096 + by_ s 2 % 64 * 64 + by_ s 3 % 64 : Nat) : Int) := v4 r0 (by omega) (by omega) (by omega)
        have hd : decodeN s.size (by_ s 0) (by_ s 1) (by_ s 2) (by_ s 3) = if by_ s 0 % 8 * 262144 + by_ s 1 % 64 * 4096 + by_ s 2 % 64 * 64 + by_ s 3 % 64 ≥ 65536 ∧ (by_ s 0 % 8 * 262144 + by_ s 1 % 64 * 4096 + by_ s 2 % 64 * 64 + by_ s 3 % 64 < 55296 ∨ (57344 ≤ by_ s 0 % 8 * 262144 + by_ s 1 % 64 * 4096 + by_ s 2 % 64 * 64 + by_ s 3 % 64 ∧ by_ s 0 % 8 * 262144 + by_ s 1 % 64 * 4096 + by_ s 2 % 64 * 64 + by_ s 3 % 64 ≤ 1114111)) then (by_ s 0 % 8 * 262144 + by_ s 1 % 64 * 4096 + by_ s 2 % 64 * 64 + by_ s 3 % 64, 4) else (65533, 1) := by
          unfold decodeN
          rw [if_neg h128, if_neg (by omega), if_neg (by omega), if_pos ⟨by omega, m1, m2, m3⟩]
        have m1' := m1.1
        have m2' := m2.1
        have m3' := m3.1
        clear X1 m1 m2 m3
        generalize by_ s 0 % 8 * 262144 + by_ s 1 % 64 * 4096 + by_ s 2 % 64 * 64 + by_ s 3 % 64 = N at *
        by_cases q : 65536 ≤ N
        · have q1 : (65536 : Int) ≤ (N : Int) := by omega
          by_cases q2 : N ≤ 1114111
          · obtain ⟨g1, g2⟩ := good N 4 (by rw [hd, if_pos (by omega)]) (by omega)
            rw [g1, g2]
            have q2' : (N : Int) ≤ 1114111 := by omega
            clear good bad g1 g2 hd q q2
            (repeat' (first | refine wk ?_ | refine wk2 ?_ ?_ | with_reducible refine wkF fun _ _ _ => ?_ | with_reducible intro _ | refine Calling.eq (M1 _) ?_ | refine Calling.eq (M2 _) ?_ | refine Calling.eq (M3 _) ?_ | exact ag | fail))
            refine ARun.drawB mixed [([], [0, 1, 2, 3, 4, 5, 6, 7, 8, 9, 10, 11, 12, 13, 14, 15, 16, 17, 18, 19, 20], none)] (by kernel_rfl) (by rfl) ?_
            (repeat' (first | refine wk ?_ | refine wk2 ?_ ?_ | with_reducible refine wkF fun _ _ _ => ?_ | with_reducible intro _ | exact ag | fail))
            exact fin0
          · obtain ⟨g1, g2⟩ := bad (by rw [hd, if_neg (by omega)])
            rw [g1, g2]
            have q2' : decide ((N : Int) ≤ 1114111) = false := by simp; omega
            clear good bad g1 g2 hd q q2
            (repeat' (first | refine wk ?_ | refine wk2 ?_ ?_ | with_reducible refine wkF fun _ _ _ => ?_ | with_reducible intro _ | refine Calling.eq (M1 _) ?_ | refine Calling.eq (M2 _) ?_ | refine Calling.eq (M3 _) ?_ | exact ag | fail))
            refine ARun.drawB mixed [([], [0, 1, 2, 3, 4, 5, 6, 7, 8, 9, 10, 11, 12, 13, 14, 15, 16, 17, 18, 19, 20], none)] (by kernel_rfl) (by rfl) ?_
            (repeat' (first | refine wk ?_ | refine wk2 ?_ ?_ | with_reducible refine wkF fun _ _ _ => ?_ | with_reducible intro _ | exact ag | fail))
            exact fin0
        · obtain ⟨g1, g2⟩ := bad (by rw [hd, if_neg (by omega)])
          rw [g1, g2]
          have q1 : decide ((65536 : Int) ≤ (N : Int)) = false := by simp; omega
          clear good bad g1 g2 hd q
          (repeat' (first | refine wk ?_ | refine wk2 ?_ ?_ | with_reducible refine wkF fun _ _ _ => ?_ | with_reducible intro _ | refine Calling.eq (M1 _) ?_ | refine Calling.eq (M2 _) ?_ | refine Calling.eq (M3 _) ?_ | exact ag | fail))
          refine ARun.drawB mixed [([], [0, 1, 2, 3, 4, 5, 6, 7, 8, 9, 10, 11, 12, 13, 14, 15, 16, 17, 18, 19, 20], none)] (by kernel_rfl) (by rfl) ?_
          (repeat' (first | refine wk ?_ | refine wk2 ?_ ?_ | with_reducible refine wkF fun _ _ _ => ?_ | with_reducible intro _ | exact ag | fail))
          exact fin0
      · obtain ⟨g1, g2⟩ := bad (by unfold decodeN; rw [if_neg h128, if_neg (by omega), if_neg (by omega), if_neg (by omega)])
        rw [g1, g2]
        have M3 := M3 false (by
          rw [Bool.eq_false_iff]; intro q; simp only [Bool.and_eq_true, decide_eq_true_eq] at q; exact m3 q)
        clear good bad X1 X2 X3 g1 g2 m1 m2 m3
        (repeat' (first | refine wk ?_ | refine wk2 ?_ ?_ | with_reducible refine wkF fun _ _ _ => ?_ | with_reducible intro _ | refine Calling.eq (M1 _) ?_ | refine Calling.eq (M2 _) ?_ | refine Calling.eq (M3 _) ?_ | exact ag | fail))
        exact fin0
    · obtain ⟨g1, g2⟩ := bad (by unfold decodeN; rw [if_neg h128, if_neg (by omega), if_neg (by omega), if_neg (by omega)])
      rw [g1, g2]
      have M2 := M2 false (by
        rw [Bool.eq_false_iff]; intro q; simp only [Bool.and_eq_true, decide_eq_true_eq] at q; exact m2 q)
      clear good bad M3 X1 X2 X3 g1 g2 m1 m2
      (repeat' (first | refine wk ?_ | refine wk2 ?_ ?_ | with_reducible refine wkF fun _ _ _ => ?_ | with_reducible intro _ | refine Calling.eq (M1 _) ?_ | refine Calling.eq (M2 _) ?_ | exact ag | fail))
      exact fin0
  · obtain ⟨g1, g2⟩ := bad (by unfold decodeN; rw [if_neg h128, if_neg (by omega), if_neg (by omega), if_neg (by omega)])
    rw [g1, g2]
    have M1 := M1 false (by
      rw [Bool.eq_false_iff]; intro q; simp only [Bool.and_eq_true, decide_eq_true_eq] at q; exact m1 q)
    clear good bad M2 M3 X1 X2 X3 g1 g2 m1
    (repeat' (first | refine wk ?_ | refine wk2 ?_ ?_ | with_reducible refine wkF fun _ _ _ => ?_ | with_reducible intro _ | refine Calling.eq (M1 _) ?_ | exact ag | fail))
    exact fin0
end Go.Abs
