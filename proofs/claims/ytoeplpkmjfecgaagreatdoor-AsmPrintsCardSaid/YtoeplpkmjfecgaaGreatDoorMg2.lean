import Derived.Test.YtoeplpkmjfecgaaGreatDoorMg1
import Derived.Test.YtoeplpkmjfecgaaGreatDoorAb30
import Derived.Lib.IndexBytes
import Derived.Lib.IndexLaws
/- An instruction as a line: the document's Print. -/
namespace Go.Abs
set_option linter.unusedSimpArgs false
set_option linter.unusedVariables false
set_option maxHeartbeats 4000000
open Go.Proofs Go.Wd Go.RowKit
set_option linter.unusedVariables false
set_option linter.unusedSectionVars false
set_option maxRecDepth 8000
variable {H : Heap}
def pR : ByteArray := ⟨#[32, 114]⟩
def pS : ByteArray := ⟨#[32]⟩
theorem sR : pR.size = 2 := rfl
theorem sS : pS.size = 1 := rfl
def prU (u : Bool × Bool × Bool × Bool) (m D A B I : ByteArray) : ByteArray :=
  let s1 := if u.1 = true then m ++ pR ++ D else m
  let s2 := if u.2.1 = true then s1 ++ pR ++ A else s1
  let s3 := if u.2.2.1 = true then s2 ++ pR ++ B else s2
  if u.2.2.2 = true then s3 ++ pS ++ I else s3
def numB (n : Int) : ByteArray := mk (Lib.itoa n)
/-- An instruction, printed. -/
def Ins.pr (x : Ins) : ByteArray := if x.chk = 0 then prU (usesR x.o) (mn x.o) (numB x.d) (numB x.a) (numB x.b) (numB x.i) else ⟨#[]⟩
theorem uses_six (o : Int) : usesR o = (true, true, true, false) ∨ usesR o = (true, true, false, true) ∨ usesR o = (true, false, false, true) ∨ usesR o = (false, false, false, true) ∨ usesR o = (false, true, false, false) ∨ usesR o = (false, false, false, false) := by
  unfold usesR
  split
  · exact .inl rfl
  · split
    · exact .inr (.inl rfl)
    · split
      · exact .inr (.inr (.inl rfl))
      · split
        · exact .inr (.inr (.inr (.inl rfl)))
        · split
          · exact .inr (.inr (.inr (.inr (.inl rfl))))
          · exact .inr (.inr (.inr (.inr (.inr rfl))))
theorem mn_size (o : Nat) : (mn o).size ≤ 5 := by
  unfold mn
  cases h : opN[o]? with
  | none => exact Nat.zero_le _
  | some x =>
    have hx := List.mem_of_getElem? h
    have : ∀ y ∈ opN, y.size ≤ 5 := by decide
    exact this x hx
theorem num_size {n : Int} (h0 : -9223372036854775807 ≤ n) (h1 : n < 9223372036854775808) : (numB n).size ≤ 20 := by
  unfold numB
  rw [mk_size]
  unfold Lib.itoa
  split
  · have := dec_len 19 n.natAbs (by decide) (by omega)
    simp only [List.length_cons]; omega
  · have := dec_len 19 n.toNat (by decide) (by omega)
    omega
set_option maxHeartbeats 4000000 in
theorem rprint_c {x : Ins} (hx : x.ok) (H : Heap) : AC Tryz.prog 9 [.agg x.enc] H (fun r H' => r = .tup [.s (.string x.pr), .s (.int .i64 x.chk)] ∧ H' = H) := by
  have K := fun H => rCheckI_c (H := H) hx
  by_cases hc : x.chk = 0
  case neg =>
    have hp : x.pr = ⟨#[]⟩ := if_neg hc
    have hb : (x.chk != 0) = true := by simpa using hc
    rw [hp]
    simp only [Ins.enc_def] at K ⊢
    clear hp hc
    refine AC.body Tryz.func9 rfl rfl (n := 53) (res := [.tmp 2, .tmp 3]) rfl rfl (by simp) ?_
    simp only [ent]
    (repeat' (first | refine wk ?_ | refine wk2 ?_ ?_ | with_reducible refine wkF fun _ _ _ => ?_ | with_reducible intro _ | refine Calling.eq (K _) ?_ | exact ag | fail))
    exact fin0
  have hp : x.pr = prU (usesR x.o) (mn x.o) (numB x.d) (numB x.a) (numB x.b) (numB x.i) := if_pos hc
  rw [hp, hc]
  rw [hc] at K
  clear hp hc
  obtain ⟨o, d, a, b, i⟩ := x
  simp only [Ins.enc_def, Ins.ok] at hx K ⊢
  obtain ⟨h1, h2, h3, h4, h5, h6⟩ := hx
  have hw1 : IntKind.i64.wrap (d : Int) = d := wi64 (by omega) (by omega)
  have hw2 : IntKind.i64.wrap (a : Int) = a := wi64 (by omega) (by omega)
  have hw3 : IntKind.i64.wrap (b : Int) = b := wi64 (by omega) (by omega)
  have hw4 : IntKind.i64.wrap i = i := wi64 (by omega) (by omega)
  have M := fun H => rmnem_c (o := o) h1 H
  have hU := fun H => ruses_c (H := H) (o := o)
  have T1 := fun H => rtold_c (n := (d : Int)) (by omega) (by omega) H
  have T2 := fun H => rtold_c (n := (a : Int)) (by omega) (by omega) H
  have T3 := fun H => rtold_c (n := (b : Int)) (by omega) (by omega) H
  have T4 := fun H => rtold_c (n := i) (by omega) (by omega) H
  have hm := mn_size o
  have hD := num_size (n := (d : Int)) (by omega) (by omega)
  have hA := num_size (n := (a : Int)) (by omega) (by omega)
  have hB := num_size (n := (b : Int)) (by omega) (by omega)
  have hI := num_size (n := i) (by omega) (by omega)
  have hu := uses_six o
  unfold numB at *
  clear h1 h2 h3 h4 h5 h6
  generalize mk (Lib.itoa d) = D at *
  generalize mk (Lib.itoa a) = A at *
  generalize mk (Lib.itoa b) = B at *
  generalize mk (Lib.itoa i) = I at *
  generalize mn o = m at *
  rcases hu with hu | hu | hu | hu | hu | hu
  · rw [hu] at hU ⊢
    simp only [b4_mk] at hU
    unfold prU
    simp only [if_true, if_false, Bool.false_eq_true]
    have c0 := catR (a := m) (b := pR) (by omega) (by have := sR; have := sS; omega)
    have c1 := catR (a := (m ++ pR)) (b := D) (by have := sR; have := sS; simp only [ByteArray.size_append]; omega) (by have := sR; have := sS; omega)
    have c2 := catR (a := ((m ++ pR) ++ D)) (b := pR) (by have := sR; have := sS; simp only [ByteArray.size_append]; omega) (by have := sR; have := sS; omega)
    have c3 := catR (a := (((m ++ pR) ++ D) ++ pR)) (b := A) (by have := sR; have := sS; simp only [ByteArray.size_append]; omega) (by have := sR; have := sS; omega)
    have c4 := catR (a := ((((m ++ pR) ++ D) ++ pR) ++ A)) (b := pR) (by have := sR; have := sS; simp only [ByteArray.size_append]; omega) (by have := sR; have := sS; omega)
    have c5 := catR (a := (((((m ++ pR) ++ D) ++ pR) ++ A) ++ pR)) (b := B) (by have := sR; have := sS; simp only [ByteArray.size_append]; omega) (by have := sR; have := sS; omega)
    have p0 : IntKind.i64.wrap (0 + 1) = 1 := id rfl
    have p1 : IntKind.i64.wrap (1 + 1) = 2 := id rfl
    have p2 : IntKind.i64.wrap (2 + 1) = 3 := id rfl
    have hfl : ([[TV.s (.int .u8 (d : Int))], [TV.s (.int .u8 (a : Int))], [TV.s (.int .u8 (b : Int))]] : List (List TV)).flatten = [TV.s (.int .u8 (d : Int)), TV.s (.int .u8 (a : Int)), TV.s (.int .u8 (b : Int))] := rfl
    try unfold pR at *
    try unfold pS at *
    clear hu hm hD hA hB hI
    refine AC.body Tryz.func9 rfl rfl (n := 53) (res := [.tmp 2, .tmp 3]) rfl rfl (by simp) ?_
    simp only [ent]
    (repeat' (first | refine wk ?_ | refine wk2 ?_ ?_ | with_reducible refine wkF fun _ _ _ => ?_ | with_reducible refine ARun.loop ?_ | with_reducible refine ARun.inLoop ?_ | with_reducible intro _ | refine Calling.eq (K _) ?_ | refine Calling.eq (M _) ?_ | refine Calling.eq (hU _) ?_ | refine Calling.eq (T1 _) ?_ | refine Calling.eq (T2 _) ?_ | refine Calling.eq (T3 _) ?_ | refine Calling.eq (T4 _) ?_ | refine Doing.fresh (oc_build (n := 3) (es := [[.s (.int .u8 d)], [.s (.int .u8 a)], [.s (.int .u8 b)]]) ap54 (fun _ h => by cases h; rfl) rfl rfl rfl (.cons rfl (.cons rfl (.cons rfl .nil))) (by decide) (by decide) (by decide)) fun _ _ _ => ?_ | exact ag | fail))
    exact fin0
  · rw [hu] at hU ⊢
    simp only [b4_mk] at hU
    unfold prU
    simp only [if_true, if_false, Bool.false_eq_true]
    have c0 := catR (a := m) (b := pR) (by omega) (by have := sR; have := sS; omega)
    have c1 := catR (a := (m ++ pR)) (b := D) (by have := sR; have := sS; simp only [ByteArray.size_append]; omega) (by have := sR; have := sS; omega)
    have c2 := catR (a := ((m ++ pR) ++ D)) (b := pR) (by have := sR; have := sS; simp only [ByteArray.size_append]; omega) (by have := sR; have := sS; omega)
    have c3 := catR (a := (((m ++ pR) ++ D) ++ pR)) (b := A) (by have := sR; have := sS; simp only [ByteArray.size_append]; omega) (by have := sR; have := sS; omega)
    have c4 := catR (a := ((((m ++ pR) ++ D) ++ pR) ++ A)) (b := pS) (by have := sR; have := sS; simp only [ByteArray.size_append]; omega) (by have := sR; have := sS; omega)
    have c5 := catR (a := (((((m ++ pR) ++ D) ++ pR) ++ A) ++ pS)) (b := I) (by have := sR; have := sS; simp only [ByteArray.size_append]; omega) (by have := sR; have := sS; omega)
    have p0 : IntKind.i64.wrap (0 + 1) = 1 := id rfl
    have p1 : IntKind.i64.wrap (1 + 1) = 2 := id rfl
    have p2 : IntKind.i64.wrap (2 + 1) = 3 := id rfl
    have hfl : ([[TV.s (.int .u8 (d : Int))], [TV.s (.int .u8 (a : Int))], [TV.s (.int .u8 (b : Int))]] : List (List TV)).flatten = [TV.s (.int .u8 (d : Int)), TV.s (.int .u8 (a : Int)), TV.s (.int .u8 (b : Int))] := rfl
    try unfold pR at *
    try unfold pS at *
    clear hu hm hD hA hB hI
    refine AC.body Tryz.func9 rfl rfl (n := 53) (res := [.tmp 2, .tmp 3]) rfl rfl (by simp) ?_
    simp only [ent]
    (repeat' (first | refine wk ?_ | refine wk2 ?_ ?_ | with_reducible refine wkF fun _ _ _ => ?_ | with_reducible refine ARun.loop ?_ | with_reducible refine ARun.inLoop ?_ | with_reducible intro _ | refine Calling.eq (K _) ?_ | refine Calling.eq (M _) ?_ | refine Calling.eq (hU _) ?_ | refine Calling.eq (T1 _) ?_ | refine Calling.eq (T2 _) ?_ | refine Calling.eq (T3 _) ?_ | refine Calling.eq (T4 _) ?_ | refine Doing.fresh (oc_build (n := 3) (es := [[.s (.int .u8 d)], [.s (.int .u8 a)], [.s (.int .u8 b)]]) ap54 (fun _ h => by cases h; rfl) rfl rfl rfl (.cons rfl (.cons rfl (.cons rfl .nil))) (by decide) (by decide) (by decide)) fun _ _ _ => ?_ | exact ag | fail))
    exact fin0
  · rw [hu] at hU ⊢
    simp only [b4_mk] at hU
    unfold prU
    simp only [if_true, if_false, Bool.false_eq_true]
    have c0 := catR (a := m) (b := pR) (by omega) (by have := sR; have := sS; omega)
    have c1 := catR (a := (m ++ pR)) (b := D) (by have := sR; have := sS; simp only [ByteArray.size_append]; omega) (by have := sR; have := sS; omega)
    have c2 := catR (a := ((m ++ pR) ++ D)) (b := pS) (by have := sR; have := sS; simp only [ByteArray.size_append]; omega) (by have := sR; have := sS; omega)
    have c3 := catR (a := (((m ++ pR) ++ D) ++ pS)) (b := I) (by have := sR; have := sS; simp only [ByteArray.size_append]; omega) (by have := sR; have := sS; omega)
    have p0 : IntKind.i64.wrap (0 + 1) = 1 := id rfl
    have p1 : IntKind.i64.wrap (1 + 1) = 2 := id rfl
    have p2 : IntKind.i64.wrap (2 + 1) = 3 := id rfl
    have hfl : ([[TV.s (.int .u8 (d : Int))], [TV.s (.int .u8 (a : Int))], [TV.s (.int .u8 (b : Int))]] : List (List TV)).flatten = [TV.s (.int .u8 (d : Int)), TV.s (.int .u8 (a : Int)), TV.s (.int .u8 (b : Int))] := rfl
    try unfold pR at *
    try unfold pS at *
    clear hu hm hD hA hB hI
    refine AC.body Tryz.func9 rfl rfl (n := 53) (res := [.tmp 2, .tmp 3]) rfl rfl (by simp) ?_
    simp only [ent]
    (repeat' (first | refine wk ?_ | refine wk2 ?_ ?_ | with_reducible refine wkF fun _ _ _ => ?_ | with_reducible refine ARun.loop ?_ | with_reducible refine ARun.inLoop ?_ | with_reducible intro _ | refine Calling.eq (K _) ?_ | refine Calling.eq (M _) ?_ | refine Calling.eq (hU _) ?_ | refine Calling.eq (T1 _) ?_ | refine Calling.eq (T2 _) ?_ | refine Calling.eq (T3 _) ?_ | refine Calling.eq (T4 _) ?_ | refine Doing.fresh (oc_build (n := 3) (es := [[.s (.int .u8 d)], [.s (.int .u8 a)], [.s (.int .u8 b)]]) ap54 (fun _ h => by cases h; rfl) rfl rfl rfl (.cons rfl (.cons rfl (.cons rfl .nil))) (by decide) (by decide) (by decide)) fun _ _ _ => ?_ | exact ag | fail))
    exact fin0
  · rw [hu] at hU ⊢
    simp only [b4_mk] at hU
    unfold prU
    simp only [if_true, if_false, Bool.false_eq_true]
    have c0 := catR (a := m) (b := pS) (by omega) (by have := sR; have := sS; omega)
    have c1 := catR (a := (m ++ pS)) (b := I) (by have := sR; have := sS; simp only [ByteArray.size_append]; omega) (by have := sR; have := sS; omega)
    have p0 : IntKind.i64.wrap (0 + 1) = 1 := id rfl
    have p1 : IntKind.i64.wrap (1 + 1) = 2 := id rfl
    have p2 : IntKind.i64.wrap (2 + 1) = 3 := id rfl
    have hfl : ([[TV.s (.int .u8 (d : Int))], [TV.s (.int .u8 (a : Int))], [TV.s (.int .u8 (b : Int))]] : List (List TV)).flatten = [TV.s (.int .u8 (d : Int)), TV.s (.int .u8 (a : Int)), TV.s (.int .u8 (b : Int))] := rfl
    try unfold pR at *
    try unfold pS at *
    clear hu hm hD hA hB hI
    refine AC.body Tryz.func9 rfl rfl (n := 53) (res := [.tmp 2, .tmp 3]) rfl rfl (by simp) ?_
    simp only [ent]
    (repeat' (first | refine wk ?_ | refine wk2 ?_ ?_ | with_reducible refine wkF fun _ _ _ => ?_ | with_reducible refine ARun.loop ?_ | with_reducible refine ARun.inLoop ?_ | with_reducible intro _ | refine Calling.eq (K _) ?_ | refine Calling.eq (M _) ?_ | refine Calling.eq (hU _) ?_ | refine Calling.eq (T1 _) ?_ | refine Calling.eq (T2 _) ?_ | refine Calling.eq (T3 _) ?_ | refine Calling.eq (T4 _) ?_ | refine Doing.fresh (oc_build (n := 3) (es := [[.s (.int .u8 d)], [.s (.int .u8 a)], [.s (.int .u8 b)]]) ap54 (fun _ h => by cases h; rfl) rfl rfl rfl (.cons rfl (.cons rfl (.cons rfl .nil))) (by decide) (by decide) (by decide)) fun _ _ _ => ?_ | exact ag | fail))
    exact fin0
  · rw [hu] at hU ⊢
    simp only [b4_mk] at hU
    unfold prU
    simp only [if_true, if_false, Bool.false_eq_true]
    have c0 := catR (a := m) (b := pR) (by omega) (by have := sR; have := sS; omega)
    have c1 := catR (a := (m ++ pR)) (b := A) (by have := sR; have := sS; simp only [ByteArray.size_append]; omega) (by have := sR; have := sS; omega)
    have p0 : IntKind.i64.wrap (0 + 1) = 1 := id rfl
    have p1 : IntKind.i64.wrap (1 + 1) = 2 := id rfl
    have p2 : IntKind.i64.wrap (2 + 1) = 3 := id rfl
    have hfl : ([[TV.s (.int .u8 (d : Int))], [TV.s (.int .u8 (a : Int))], [TV.s (.int .u8 (b : Int))]] : List (List TV)).flatten = [TV.s (.int .u8 (d : Int)), TV.s (.int .u8 (a : Int)), TV.s (.int .u8 (b : Int))] := rfl
    try unfold pR at *
    try unfold pS at *
    clear hu hm hD hA hB hI
    refine AC.body Tryz.func9 rfl rfl (n := 53) (res := [.tmp 2, .tmp 3]) rfl rfl (by simp) ?_
    simp only [ent]
    (repeat' (first | refine wk ?_ | refine wk2 ?_ ?_ | with_reducible refine wkF fun _ _ _ => ?_ | with_reducible refine ARun.loop ?_ | with_reducible refine ARun.inLoop ?_ | with_reducible intro _ | refine Calling.eq (K _) ?_ | refine Calling.eq (M _) ?_ | refine Calling.eq (hU _) ?_ | refine Calling.eq (T1 _) ?_ | refine Calling.eq (T2 _) ?_ | refine Calling.eq (T3 _) ?_ | refine Calling.eq (T4 _) ?_ | refine Doing.fresh (oc_build (n := 3) (es := [[.s (.int .u8 d)], [.s (.int .u8 a)], [.s (.int .u8 b)]]) ap54 (fun _ h => by cases h; rfl) rfl rfl rfl (.cons rfl (.cons rfl (.cons rfl .nil))) (by decide) (by decide) (by decide)) fun _ _ _ => ?_ | exact ag | fail))
    exact fin0
  · rw [hu] at hU ⊢
    simp only [b4_mk] at hU
    unfold prU
    simp only [if_true, if_false, Bool.false_eq_true]
    skip
    have p0 : IntKind.i64.wrap (0 + 1) = 1 := id rfl
    have p1 : IntKind.i64.wrap (1 + 1) = 2 := id rfl
    have p2 : IntKind.i64.wrap (2 + 1) = 3 := id rfl
    have hfl : ([[TV.s (.int .u8 (d : Int))], [TV.s (.int .u8 (a : Int))], [TV.s (.int .u8 (b : Int))]] : List (List TV)).flatten = [TV.s (.int .u8 (d : Int)), TV.s (.int .u8 (a : Int)), TV.s (.int .u8 (b : Int))] := rfl
    try unfold pR at *
    try unfold pS at *
    clear hu hm hD hA hB hI
    refine AC.body Tryz.func9 rfl rfl (n := 53) (res := [.tmp 2, .tmp 3]) rfl rfl (by simp) ?_
    simp only [ent]
    (repeat' (first | refine wk ?_ | refine wk2 ?_ ?_ | with_reducible refine wkF fun _ _ _ => ?_ | with_reducible refine ARun.loop ?_ | with_reducible refine ARun.inLoop ?_ | with_reducible intro _ | refine Calling.eq (K _) ?_ | refine Calling.eq (M _) ?_ | refine Calling.eq (hU _) ?_ | refine Calling.eq (T1 _) ?_ | refine Calling.eq (T2 _) ?_ | refine Calling.eq (T3 _) ?_ | refine Calling.eq (T4 _) ?_ | refine Doing.fresh (oc_build (n := 3) (es := [[.s (.int .u8 d)], [.s (.int .u8 a)], [.s (.int .u8 b)]]) ap54 (fun _ h => by cases h; rfl) rfl rfl rfl (.cons rfl (.cons rfl (.cons rfl .nil))) (by decide) (by decide) (by decide)) fun _ _ _ => ?_ | exact ag | fail))
    exact fin0
end Go.Abs
/- An instruction as a line: the program's Print. -/
namespace Go.Abs
set_option linter.unusedSimpArgs false
set_option linter.unusedVariables false
set_option maxHeartbeats 4000000
open Go.Proofs Go.Wd Go.RowKit
set_option linter.unusedVariables false
set_option linter.unusedSectionVars false
set_option maxRecDepth 8000
variable {H : Heap}
def pr : ByteArray := ⟨#[114]⟩
theorem sr : pr.size = 1 := rfl
/-- One value more behind a row of one's own. -/
theorem oc_app_s {P : Program} {d : Option Tmp} {ty : TypeId} {pos : String} {aft : Array Edge} {g : Option (Nat × Bool)} {t tx : TypeId} {s x : Operand} {b b1 n bytes : Nat} {cs : List TV} {e : ByteArray} (ha : apP P t = some (1, bytes)) {e' : TypeId} (hk : P.underlying tx = some (.slice e'))
    (hn : cs.length = n) (hb : H b = none) (hb1 : upd H b (.cells cs) b1 = none) (hn0 : 0 < n) (hn1 : n ≤ 1000) (hby : (n + 1 + (n + 1) / 4 + 192) * bytes ≤ 281474976710656) :
    OC P ⟨d, .call { callee := .builtin .append, args := #[s, x], argTypes := #[t, tx] }, ty, pos, aft, g⟩ [.rs b 0 n 1, .rs b1 0 1 1] (upd (upd H b (.cells cs)) b1 (.cells [.s (.string e)])) (fun r H' => ∃ b', H b' = none ∧ r = .rs b' 0 (n + 1) 1 ∧ H' = upd H b' (.cells (cs ++ [.s (.string e)]))) := by
  have fl : ∀ l : List TV, (l.map fun c => [c]).flatten = l := fun l => by
    induction l with
    | nil => rfl
    | cons c l ih => rw [List.map_cons, List.flatten_cons, ih]; rfl
  have hne : (cs.map fun c => [c]) ≠ [] := by intro h; have : cs = [] := by simpa using h
                                              rw [this] at hn; simp at hn; omega
  have h := oc_append1 (P := P) (d := d) (ty := ty) (pos := pos) (aft := aft) (g := g) (s := s) (x := x) (H := H) (t := t) (tx := tx) (b := b) (b1 := b1) (L := cs.map fun c => [c]) (e := [.s (.string e)]) ha hk (fun z hz => by obtain ⟨c, _, rfl⟩ := List.mem_map.1 hz; rfl) rfl rfl (fun _ => hb) (by rw [ownH_ne' hne, fl]; exact hb1) (by rw [List.length_map, hn]; exact hby) (by rw [List.length_map, hn]; omega)
  rw [ownT_ne hne, ownH_ne' hne, fl, List.length_map, hn] at h
  refine OC.mono h ?_
  rintro r H' ⟨b', h1, h2, h3⟩
  have e1 : ((cs.map fun c => [c]) ++ [[TV.s (.string e)]]) = (cs ++ [TV.s (.string e)]).map fun c => [c] := by simp
  rw [e1] at h2 h3
  have hne2 : ((cs ++ [TV.s (.string e)]).map fun c => [c]) ≠ [] := by simp
  rw [ownT_ne hne2] at h2
  rw [ownH_ne' hne2, fl] at h3
  refine ⟨b', h1, ?_, h3⟩
  rw [h2, List.length_map, List.length_append, hn]; rfl
theorem join_cs {b n : Nat} {cs : List TV} {xs : List ByteArray} {sep : ByteArray} (hcs : (xs.map s1).flatten = cs) (hn : xs.length = n) (hb : H b = some (.cells cs)) (hne : xs ≠ []) (hN : xs.length ≤ 1000) (hlen : (Lib.join (xs.map (·.data.toList)) sep.data.toList).length ≤ 140737488355328) :
    AC Tryz.prog 22 [.rs b 0 n 1, .s (.string sep)] H (fun r H' => r = .s (.string (mk (Lib.join (xs.map (·.data.toList)) sep.data.toList))) ∧ H' = H) := by
  subst hcs hn
  exact join_c hb hne hN hlen
theorem joinE {xs : List ByteArray} {s : ByteArray} (h : Lib.join (xs.map (·.data.toList)) [32] = s.data.toList) (hs : s.size ≤ 1000) : mk (Lib.join (xs.map (·.data.toList)) (⟨#[32]⟩ : ByteArray).data.toList) = s ∧ (Lib.join (xs.map (·.data.toList)) (⟨#[32]⟩ : ByteArray).data.toList).length ≤ 140737488355328 := by
  have e : (⟨#[32]⟩ : ByteArray).data.toList = [32] := rfl
  rw [e, h]
  refine ⟨mk_self s, ?_⟩
  have : s.data.toList.length = s.size := Array.length_toList
  omega
set_option maxHeartbeats 4000000 in
theorem print_c {G : Heap} (g : GA G) (hN : NamesAt G) (hs : Sub G H) {x : Ins} (hx : x.ok) : AC Tryz.prog 8 [.agg x.enc] H (fun r H' => r = .tup [.s (.string x.pr), .s (.int .i64 x.chk)] ∧ H' = H) := by
  have K := fun H => isaCheck_c (H := H) hx
  by_cases hc : x.chk = 0
  case neg =>
    have hp : x.pr = ⟨#[]⟩ := if_neg hc
    have hb : (x.chk != 0) = true := by simpa using hc
    rw [hp]
    simp only [Ins.enc_def] at K ⊢
    clear hp hc g hN hs
    refine AC.body Tryz.func8 rfl rfl (n := 64) (res := [.tmp 2, .tmp 3]) rfl rfl (by simp) ?_
    simp only [ent]
    (repeat' (first | refine wk ?_ | refine wk2 ?_ ?_ | with_reducible refine wkF fun _ _ _ => ?_ | with_reducible intro _ | refine Calling.eq (K _) ?_ | exact ag | fail))
    exact fin0
  have hp : x.pr = prU (usesR x.o) (mn x.o) (numB x.d) (numB x.a) (numB x.b) (numB x.i) := if_pos hc
  rw [hp, hc]
  rw [hc] at K
  clear hp hc
  obtain ⟨o, d, a, b, i⟩ := x
  simp only [Ins.enc_def, Ins.ok] at hx K ⊢
  obtain ⟨h1, h2, h3, h4, h5, h6⟩ := hx
  have hw1 : IntKind.i64.wrap (d : Int) = d := wi64 (by omega) (by omega)
  have hw2 : IntKind.i64.wrap (a : Int) = a := wi64 (by omega) (by omega)
  have hw3 : IntKind.i64.wrap (b : Int) = b := wi64 (by omega) (by omega)
  have hw4 : IntKind.i64.wrap i = i := wi64 (by omega) (by omega)
  have M := fun (K : Heap) (hK : Sub H K) => mnem_c hN (hs.trans hK) (o := o) h1
  have hU := fun H => uses_c (H := H) (o := o)
  have T1 := fun (K : Heap) (hK : Sub H K) => itoa_c g (hs.trans hK) (n := (d : Int)) (by omega) (by omega)
  have T2 := fun (K : Heap) (hK : Sub H K) => itoa_c g (hs.trans hK) (n := (a : Int)) (by omega) (by omega)
  have T3 := fun (K : Heap) (hK : Sub H K) => itoa_c g (hs.trans hK) (n := (b : Int)) (by omega) (by omega)
  have T4 := fun (K : Heap) (hK : Sub H K) => itoa_c g (hs.trans hK) (n := i) (by omega) (by omega)
  have hm := mn_size o
  have hD := num_size (n := (d : Int)) (by omega) (by omega)
  have hA := num_size (n := (a : Int)) (by omega) (by omega)
  have hB := num_size (n := (b : Int)) (by omega) (by omega)
  have hI := num_size (n := i) (by omega) (by omega)
  have hu := uses_six o
  unfold numB mk at *
  clear h1 h2 h3 h4 h5 h6 g hN hs
  replace M := later M
  replace T1 := later T1
  replace T2 := later T2
  replace T3 := later T3
  replace T4 := later T4
  generalize (⟨(Lib.itoa d).toArray⟩ : ByteArray) = D at *
  generalize (⟨(Lib.itoa a).toArray⟩ : ByteArray) = A at *
  generalize (⟨(Lib.itoa b).toArray⟩ : ByteArray) = B at *
  generalize (⟨(Lib.itoa i).toArray⟩ : ByteArray) = I at *
  generalize mn o = m at *
  rcases hu with hu | hu | hu | hu | hu | hu
  · rw [hu] at hU ⊢
    simp only [b4_mk] at hU
    unfold prU
    simp only [if_true, if_false, Bool.false_eq_true]
    have cD := catR (a := pr) (b := D) (by have := sr; omega) (by omega)
    have cA := catR (a := pr) (b := A) (by have := sr; omega) (by omega)
    have cB := catR (a := pr) (b := B) (by have := sr; omega) (by omega)
    have hj := joinE (xs := [m, (pr ++ D), (pr ++ A), (pr ++ B)]) (s := (((m ++ pR ++ D) ++ pR ++ A) ++ pR ++ B)) (by simp only [List.map_cons, List.map_nil, ByteArray.data_append, Array.toList_append, Lib.join_one, Lib.join_cons, Lib.joinTail, List.flatten_cons, List.flatten_nil, pR, pS, pr, List.append_assoc, List.append_nil, List.cons_append, List.nil_append, List.singleton_append]) (by have := sR; have := sS; first | omega | (simp only [ByteArray.size_append]; omega))
    obtain ⟨hj1, hj2⟩ := hj
    try unfold pr at *
    try unfold pR at *
    try unfold pS at *
    have q1 : [TV.s (.string m)] ++ [TV.s (.string (⟨#[114]⟩ ++ D))] = [TV.s (.string m), TV.s (.string (⟨#[114]⟩ ++ D))] := id rfl
    have q2 : [TV.s (.string m), TV.s (.string (⟨#[114]⟩ ++ D))] ++ [TV.s (.string (⟨#[114]⟩ ++ A))] = [TV.s (.string m), TV.s (.string (⟨#[114]⟩ ++ D)), TV.s (.string (⟨#[114]⟩ ++ A))] := id rfl
    have q3 : [TV.s (.string m), TV.s (.string (⟨#[114]⟩ ++ D)), TV.s (.string (⟨#[114]⟩ ++ A))] ++ [TV.s (.string (⟨#[114]⟩ ++ B))] = [TV.s (.string m), TV.s (.string (⟨#[114]⟩ ++ D)), TV.s (.string (⟨#[114]⟩ ++ A)), TV.s (.string (⟨#[114]⟩ ++ B))] := id rfl
    clear hu hm hD hA hB hI
    refine AC.body Tryz.func8 rfl rfl (n := 64) (res := [.tmp 2, .tmp 3]) rfl rfl (by simp) ?_
    simp only [ent]
    have J := fun (H : Heap) b hb => join_cs (H := H) (b := b) (cs := [TV.s (.string m), TV.s (.string (⟨#[114]⟩ ++ D)), TV.s (.string (⟨#[114]⟩ ++ A)), TV.s (.string (⟨#[114]⟩ ++ B))]) (n := 4) (xs := [m, (⟨#[114]⟩ ++ D), (⟨#[114]⟩ ++ A), (⟨#[114]⟩ ++ B)]) (sep := ⟨#[32]⟩) rfl rfl hb (by simp) (by simp) hj2
    simp only [hj1] at J
    (repeat' (first | refine wk ?_ | refine wk2 ?_ ?_ | with_reducible refine wkF fun _ _ _ => ?_ | with_reducible intro _ | refine Calling.eq (K _) ?_ | refine Calling.eq (M.go _ (by exact sb)) ?_ | refine Calling.eq (hU _) ?_ | refine Calling.eq (T1.go _ (by exact sb)) ?_ | refine Calling.eq (T2.go _ (by exact sb)) ?_ | refine Calling.eq (T3.go _ (by exact sb)) ?_ | refine Calling.eq (T4.go _ (by exact sb)) ?_ | refine Doing.fresh (oc_build1 ap46 (fun _ h => by cases h; rfl) rfl rfl (by decide) (by decide)) fun _ _ _ => ?_ | refine Doing.fresh (oc_app_s ap46 us46 rfl (by assumption) (by assumption) (by decide) (by decide) (by decide)) fun _ _ _ => ?_ | refine Calling.eq (J _ _ (ag)) ?_ | exact ag | fail))
    exact fin0
  · rw [hu] at hU ⊢
    simp only [b4_mk] at hU
    unfold prU
    simp only [if_true, if_false, Bool.false_eq_true]
    have cD := catR (a := pr) (b := D) (by have := sr; omega) (by omega)
    have cA := catR (a := pr) (b := A) (by have := sr; omega) (by omega)
    have hj := joinE (xs := [m, (pr ++ D), (pr ++ A), I]) (s := (((m ++ pR ++ D) ++ pR ++ A) ++ pS ++ I)) (by simp only [List.map_cons, List.map_nil, ByteArray.data_append, Array.toList_append, Lib.join_one, Lib.join_cons, Lib.joinTail, List.flatten_cons, List.flatten_nil, pR, pS, pr, List.append_assoc, List.append_nil, List.cons_append, List.nil_append, List.singleton_append]) (by have := sR; have := sS; first | omega | (simp only [ByteArray.size_append]; omega))
    obtain ⟨hj1, hj2⟩ := hj
    try unfold pr at *
    try unfold pR at *
    try unfold pS at *
    have q1 : [TV.s (.string m)] ++ [TV.s (.string (⟨#[114]⟩ ++ D))] = [TV.s (.string m), TV.s (.string (⟨#[114]⟩ ++ D))] := id rfl
    have q2 : [TV.s (.string m), TV.s (.string (⟨#[114]⟩ ++ D))] ++ [TV.s (.string (⟨#[114]⟩ ++ A))] = [TV.s (.string m), TV.s (.string (⟨#[114]⟩ ++ D)), TV.s (.string (⟨#[114]⟩ ++ A))] := id rfl
    have q3 : [TV.s (.string m), TV.s (.string (⟨#[114]⟩ ++ D)), TV.s (.string (⟨#[114]⟩ ++ A))] ++ [TV.s (.string I)] = [TV.s (.string m), TV.s (.string (⟨#[114]⟩ ++ D)), TV.s (.string (⟨#[114]⟩ ++ A)), TV.s (.string I)] := id rfl
    clear hu hm hD hA hB hI
    refine AC.body Tryz.func8 rfl rfl (n := 64) (res := [.tmp 2, .tmp 3]) rfl rfl (by simp) ?_
    simp only [ent]
    have J := fun (H : Heap) b hb => join_cs (H := H) (b := b) (cs := [TV.s (.string m), TV.s (.string (⟨#[114]⟩ ++ D)), TV.s (.string (⟨#[114]⟩ ++ A)), TV.s (.string I)]) (n := 4) (xs := [m, (⟨#[114]⟩ ++ D), (⟨#[114]⟩ ++ A), I]) (sep := ⟨#[32]⟩) rfl rfl hb (by simp) (by simp) hj2
    simp only [hj1] at J
    (repeat' (first | refine wk ?_ | refine wk2 ?_ ?_ | with_reducible refine wkF fun _ _ _ => ?_ | with_reducible intro _ | refine Calling.eq (K _) ?_ | refine Calling.eq (M.go _ (by exact sb)) ?_ | refine Calling.eq (hU _) ?_ | refine Calling.eq (T1.go _ (by exact sb)) ?_ | refine Calling.eq (T2.go _ (by exact sb)) ?_ | refine Calling.eq (T3.go _ (by exact sb)) ?_ | refine Calling.eq (T4.go _ (by exact sb)) ?_ | refine Doing.fresh (oc_build1 ap46 (fun _ h => by cases h; rfl) rfl rfl (by decide) (by decide)) fun _ _ _ => ?_ | refine Doing.fresh (oc_app_s ap46 us46 rfl (by assumption) (by assumption) (by decide) (by decide) (by decide)) fun _ _ _ => ?_ | refine Calling.eq (J _ _ (ag)) ?_ | exact ag | fail))
    exact fin0
  · rw [hu] at hU ⊢
    simp only [b4_mk] at hU
    unfold prU
    simp only [if_true, if_false, Bool.false_eq_true]
    have cD := catR (a := pr) (b := D) (by have := sr; omega) (by omega)
    have hj := joinE (xs := [m, (pr ++ D), I]) (s := ((m ++ pR ++ D) ++ pS ++ I)) (by simp only [List.map_cons, List.map_nil, ByteArray.data_append, Array.toList_append, Lib.join_one, Lib.join_cons, Lib.joinTail, List.flatten_cons, List.flatten_nil, pR, pS, pr, List.append_assoc, List.append_nil, List.cons_append, List.nil_append, List.singleton_append]) (by have := sR; have := sS; first | omega | (simp only [ByteArray.size_append]; omega))
    obtain ⟨hj1, hj2⟩ := hj
    try unfold pr at *
    try unfold pR at *
    try unfold pS at *
    have q1 : [TV.s (.string m)] ++ [TV.s (.string (⟨#[114]⟩ ++ D))] = [TV.s (.string m), TV.s (.string (⟨#[114]⟩ ++ D))] := id rfl
    have q2 : [TV.s (.string m), TV.s (.string (⟨#[114]⟩ ++ D))] ++ [TV.s (.string I)] = [TV.s (.string m), TV.s (.string (⟨#[114]⟩ ++ D)), TV.s (.string I)] := id rfl
    clear hu hm hD hA hB hI
    refine AC.body Tryz.func8 rfl rfl (n := 64) (res := [.tmp 2, .tmp 3]) rfl rfl (by simp) ?_
    simp only [ent]
    have J := fun (H : Heap) b hb => join_cs (H := H) (b := b) (cs := [TV.s (.string m), TV.s (.string (⟨#[114]⟩ ++ D)), TV.s (.string I)]) (n := 3) (xs := [m, (⟨#[114]⟩ ++ D), I]) (sep := ⟨#[32]⟩) rfl rfl hb (by simp) (by simp) hj2
    simp only [hj1] at J
    (repeat' (first | refine wk ?_ | refine wk2 ?_ ?_ | with_reducible refine wkF fun _ _ _ => ?_ | with_reducible intro _ | refine Calling.eq (K _) ?_ | refine Calling.eq (M.go _ (by exact sb)) ?_ | refine Calling.eq (hU _) ?_ | refine Calling.eq (T1.go _ (by exact sb)) ?_ | refine Calling.eq (T2.go _ (by exact sb)) ?_ | refine Calling.eq (T3.go _ (by exact sb)) ?_ | refine Calling.eq (T4.go _ (by exact sb)) ?_ | refine Doing.fresh (oc_build1 ap46 (fun _ h => by cases h; rfl) rfl rfl (by decide) (by decide)) fun _ _ _ => ?_ | refine Doing.fresh (oc_app_s ap46 us46 rfl (by assumption) (by assumption) (by decide) (by decide) (by decide)) fun _ _ _ => ?_ | refine Calling.eq (J _ _ (ag)) ?_ | exact ag | fail))
    exact fin0
  · rw [hu] at hU ⊢
    simp only [b4_mk] at hU
    unfold prU
    simp only [if_true, if_false, Bool.false_eq_true]
    have hj := joinE (xs := [m, I]) (s := (m ++ pS ++ I)) (by simp only [List.map_cons, List.map_nil, ByteArray.data_append, Array.toList_append, Lib.join_one, Lib.join_cons, Lib.joinTail, List.flatten_cons, List.flatten_nil, pR, pS, pr, List.append_assoc, List.append_nil, List.cons_append, List.nil_append, List.singleton_append]) (by have := sR; have := sS; first | omega | (simp only [ByteArray.size_append]; omega))
    obtain ⟨hj1, hj2⟩ := hj
    try unfold pr at *
    try unfold pR at *
    try unfold pS at *
    have q1 : [TV.s (.string m)] ++ [TV.s (.string I)] = [TV.s (.string m), TV.s (.string I)] := id rfl
    clear hu hm hD hA hB hI
    refine AC.body Tryz.func8 rfl rfl (n := 64) (res := [.tmp 2, .tmp 3]) rfl rfl (by simp) ?_
    simp only [ent]
    have J := fun (H : Heap) b hb => join_cs (H := H) (b := b) (cs := [TV.s (.string m), TV.s (.string I)]) (n := 2) (xs := [m, I]) (sep := ⟨#[32]⟩) rfl rfl hb (by simp) (by simp) hj2
    simp only [hj1] at J
    (repeat' (first | refine wk ?_ | refine wk2 ?_ ?_ | with_reducible refine wkF fun _ _ _ => ?_ | with_reducible intro _ | refine Calling.eq (K _) ?_ | refine Calling.eq (M.go _ (by exact sb)) ?_ | refine Calling.eq (hU _) ?_ | refine Calling.eq (T1.go _ (by exact sb)) ?_ | refine Calling.eq (T2.go _ (by exact sb)) ?_ | refine Calling.eq (T3.go _ (by exact sb)) ?_ | refine Calling.eq (T4.go _ (by exact sb)) ?_ | refine Doing.fresh (oc_build1 ap46 (fun _ h => by cases h; rfl) rfl rfl (by decide) (by decide)) fun _ _ _ => ?_ | refine Doing.fresh (oc_app_s ap46 us46 rfl (by assumption) (by assumption) (by decide) (by decide) (by decide)) fun _ _ _ => ?_ | refine Calling.eq (J _ _ (ag)) ?_ | exact ag | fail))
    exact fin0
  · rw [hu] at hU ⊢
    simp only [b4_mk] at hU
    unfold prU
    simp only [if_true, if_false, Bool.false_eq_true]
    have cA := catR (a := pr) (b := A) (by have := sr; omega) (by omega)
    have hj := joinE (xs := [m, (pr ++ A)]) (s := (m ++ pR ++ A)) (by simp only [List.map_cons, List.map_nil, ByteArray.data_append, Array.toList_append, Lib.join_one, Lib.join_cons, Lib.joinTail, List.flatten_cons, List.flatten_nil, pR, pS, pr, List.append_assoc, List.append_nil, List.cons_append, List.nil_append, List.singleton_append]) (by have := sR; have := sS; first | omega | (simp only [ByteArray.size_append]; omega))
    obtain ⟨hj1, hj2⟩ := hj
    try unfold pr at *
    try unfold pR at *
    try unfold pS at *
    have q1 : [TV.s (.string m)] ++ [TV.s (.string (⟨#[114]⟩ ++ A))] = [TV.s (.string m), TV.s (.string (⟨#[114]⟩ ++ A))] := id rfl
    clear hu hm hD hA hB hI
    refine AC.body Tryz.func8 rfl rfl (n := 64) (res := [.tmp 2, .tmp 3]) rfl rfl (by simp) ?_
    simp only [ent]
    have J := fun (H : Heap) b hb => join_cs (H := H) (b := b) (cs := [TV.s (.string m), TV.s (.string (⟨#[114]⟩ ++ A))]) (n := 2) (xs := [m, (⟨#[114]⟩ ++ A)]) (sep := ⟨#[32]⟩) rfl rfl hb (by simp) (by simp) hj2
    simp only [hj1] at J
    (repeat' (first | refine wk ?_ | refine wk2 ?_ ?_ | with_reducible refine wkF fun _ _ _ => ?_ | with_reducible intro _ | refine Calling.eq (K _) ?_ | refine Calling.eq (M.go _ (by exact sb)) ?_ | refine Calling.eq (hU _) ?_ | refine Calling.eq (T1.go _ (by exact sb)) ?_ | refine Calling.eq (T2.go _ (by exact sb)) ?_ | refine Calling.eq (T3.go _ (by exact sb)) ?_ | refine Calling.eq (T4.go _ (by exact sb)) ?_ | refine Doing.fresh (oc_build1 ap46 (fun _ h => by cases h; rfl) rfl rfl (by decide) (by decide)) fun _ _ _ => ?_ | refine Doing.fresh (oc_app_s ap46 us46 rfl (by assumption) (by assumption) (by decide) (by decide) (by decide)) fun _ _ _ => ?_ | refine Calling.eq (J _ _ (ag)) ?_ | exact ag | fail))
    exact fin0
  · rw [hu] at hU ⊢
    simp only [b4_mk] at hU
    unfold prU
    simp only [if_true, if_false, Bool.false_eq_true]
    have hj := joinE (xs := [m]) (s := m) (by simp only [List.map_cons, List.map_nil, ByteArray.data_append, Array.toList_append, Lib.join_one, Lib.join_cons, Lib.joinTail, List.flatten_cons, List.flatten_nil, pR, pS, pr, List.append_assoc, List.append_nil, List.cons_append, List.nil_append, List.singleton_append]) (by have := sR; have := sS; first | omega | (simp only [ByteArray.size_append]; omega))
    obtain ⟨hj1, hj2⟩ := hj
    try unfold pr at *
    try unfold pR at *
    try unfold pS at *
    clear hu hm hD hA hB hI
    refine AC.body Tryz.func8 rfl rfl (n := 64) (res := [.tmp 2, .tmp 3]) rfl rfl (by simp) ?_
    simp only [ent]
    have J := fun (H : Heap) b hb => join_cs (H := H) (b := b) (cs := [TV.s (.string m)]) (n := 1) (xs := [m]) (sep := ⟨#[32]⟩) rfl rfl hb (by simp) (by simp) hj2
    simp only [hj1] at J
    (repeat' (first | refine wk ?_ | refine wk2 ?_ ?_ | with_reducible refine wkF fun _ _ _ => ?_ | with_reducible intro _ | refine Calling.eq (K _) ?_ | refine Calling.eq (M.go _ (by exact sb)) ?_ | refine Calling.eq (hU _) ?_ | refine Calling.eq (T1.go _ (by exact sb)) ?_ | refine Calling.eq (T2.go _ (by exact sb)) ?_ | refine Calling.eq (T3.go _ (by exact sb)) ?_ | refine Calling.eq (T4.go _ (by exact sb)) ?_ | refine Doing.fresh (oc_build1 ap46 (fun _ h => by cases h; rfl) rfl rfl (by decide) (by decide)) fun _ _ _ => ?_ | refine Doing.fresh (oc_app_s ap46 us46 rfl (by assumption) (by assumption) (by decide) (by decide) (by decide)) fun _ _ _ => ?_ | refine Calling.eq (J _ _ (ag)) ?_ | exact ag | fail))
    exact fin0
end Go.Abs
/- What an operation uses, read. -/
namespace Go.Abs
set_option linter.unusedSimpArgs false
set_option linter.unusedVariables false
set_option maxHeartbeats 4000000
open Go.Proofs Go.Wd Go.RowKit
set_option linter.unusedVariables false
set_option linter.unusedSectionVars false
set_option maxRecDepth 8000
variable {H : Heap}
/-- A register's number. -/
def regV (p : ByteArray) : Nat × Bool := if p.size = 2 ∧ (p.get! 0).toNat = 114 ∧ 48 ≤ (p.get! 1).toNat ∧ (p.get! 1).toNat ≤ 55 then ((p.get! 1).toNat - 48, true) else (0, false)
theorem ixA {s : ByteArray} {i : Nat} (h : i < s.size) {k : IntKind} : indexA Tryz.prog 9 (.s (.string s)) (.s (.int k (i : Int))) = some (.s (.int .u8 ((s.get! i).toNat : Nat))) := by
  have e : s[i]? = some (s.get! i) := by
    rw [getElem?_pos s i h]
    congr 1
    show s.data[i]'h = s.data[i]!
    exact (getElem!_pos s.data i h).symm
  unfold indexA
  simp only []
  rw [if_pos ⟨rfl, by omega⟩, Int.toNat_natCast, e]
theorem updS {b : Nat} {r : Root} (h : H b = some r) : upd H b r = H := by
  funext x; rw [upd_eq]; split
  · rename_i e; rw [e, h]
  · rfl
theorem register_c (p : ByteArray) (H : Heap) : AC Tryz.prog 45 [.s (.string p)] H (fun r H' => r = .tup [.s (.int .u8 ((regV p).1 : Nat)), .s (.bool (regV p).2)] ∧ H' = H) := by
  refine AC.body Tryz.func45 rfl rfl (n := 25) (res := [.tmp 2, .tmp 3]) rfl rfl (by simp) ?_
  simp only [ent]
  unfold regV
  by_cases hz : p.size = 2
  · have q0 : ((p.size : Int) != 2) = false := by simp; omega
    have i0 := ixA (s := p) (i := 0) (by omega) (k := .i64)
    have i1 := ixA (s := p) (i := 1) (by omega) (k := .i64)
    simp only [Int.cast_ofNat_Int] at i0 i1
    have l1 : (p.get! 1).toNat < 256 := (p.get! 1).toNat_lt
    generalize (p.get! 0).toNat = x at *
    generalize (p.get! 1).toNat = y at *
    by_cases h1 : x = 114
    · have q1 : ((x : Int) != 114) = false := by simp; omega
      by_cases h2 : 48 ≤ y
      · have q2 : decide ((y : Int) < 48) = false := by simp; omega
        by_cases h3 : y ≤ 55
        · have q3 : decide ((55 : Int) < y) = false := by simp; omega
          rw [if_pos ⟨hz, h1, h2, h3⟩]
          have w : IntKind.u8.wrap ((y : Int) - 48) = ((y - 48 : Nat) : Int) := by rw [w8 (by omega) (by omega)]; omega
          clear hz h1 h2 h3 l1
          (repeat' (first | refine wk ?_ | refine wk2 ?_ ?_ | with_reducible refine wkF fun _ _ _ => ?_ | with_reducible intro _ | exact ag | fail))
          exact fin0
        · have q3 : decide ((55 : Int) < y) = true := by simp; omega
          rw [if_neg (by omega)]
          clear hz h1 h2 h3 l1
          (repeat' (first | refine wk ?_ | refine wk2 ?_ ?_ | with_reducible refine wkF fun _ _ _ => ?_ | with_reducible intro _ | exact ag | fail))
          exact fin0
      · have q2 : decide ((y : Int) < 48) = true := by simp; omega
        rw [if_neg (by omega)]
        clear hz h1 h2 l1
        (repeat' (first | refine wk ?_ | refine wk2 ?_ ?_ | with_reducible refine wkF fun _ _ _ => ?_ | with_reducible intro _ | exact ag | fail))
        exact fin0
    · have q1 : ((x : Int) != 114) = true := by simp; omega
      rw [if_neg (by omega)]
      clear hz h1 l1
      (repeat' (first | refine wk ?_ | refine wk2 ?_ ?_ | with_reducible refine wkF fun _ _ _ => ?_ | with_reducible intro _ | exact ag | fail))
      exact fin0
  · have q0 : ((p.size : Int) != 2) = true := by simp; omega
    rw [if_neg (by omega)]
    (repeat' (first | refine wk ?_ | refine wk2 ?_ ?_ | with_reducible refine wkF fun _ _ _ => ?_ | with_reducible intro _ | exact ag | fail))
    exact fin0
/-- One register, read or not. -/
def rstep (u : Bool) (st : List ByteArray × Bool) (v : Nat) : (List ByteArray × Bool) × Nat :=
  if (u && st.2) = true then match st.1 with
    | [] => (([], false), v)
    | p :: q => ((q, (regV p).2), (regV p).1)
  else (st, v)
theorem regD_c {bi bk bp : Nat} {ps : List ByteArray} {ok u : Bool} {v : Nat} {o a b i : Int} (h1 : H bi = some (.cells [.s (.int .u8 o), .s (.int .u8 v), .s (.int .u8 a), .s (.int .u8 b), .s (.int .i32 i)])) (h2 : H bk = some (.cells [.s (.bool ok)])) (h3 : H bp = some (.cells [.vs 1 (ps.map s1)])) (n1 : bi ≠ bk) (n2 : bi ≠ bp) (n3 : bk ≠ bp) :
    AC Tryz.prog 44 [.s (.bool u), .s (.pointer (some ⟨bi, 1, none⟩)), .s (.pointer (some ⟨bk, 0, none⟩)), .s (.pointer (some ⟨bp, 0, none⟩))] H (fun r H' => r = .tup [] ∧ H' = upd (upd (upd H bi (.cells [.s (.int .u8 o), .s (.int .u8 ((rstep u (ps, ok) v).2 : Nat)), .s (.int .u8 a), .s (.int .u8 b), .s (.int .i32 i)])) bk (.cells [.s (.bool (rstep u (ps, ok) v).1.2)])) bp (.cells [.vs 1 ((rstep u (ps, ok) v).1.1.map s1)])) := by
  refine AC.body Tryz.func44 rfl rfl (n := 26) (res := []) rfl rfl (by simp) ?_
  simp only [ent]
  have m1 : (bk = bi) = False := eq_false n1.symm
  have m2 : (bp = bi) = False := eq_false n2.symm
  have m3 : (bp = bk) = False := eq_false n3.symm
  have m4 : (bi = bk) = False := eq_false n1
  have m5 : (bi = bp) = False := eq_false n2
  have m6 : (bk = bp) = False := eq_false n3
  have R := fun p H => register_c p H
  cases u with
  | false =>
    have e : rstep false (ps, ok) v = ((ps, ok), v) := rfl
    simp only [e]
    rw [updS h1, updS h2, updS h3]
    (repeat' (first | refine wk ?_ | refine wk2 ?_ ?_ | with_reducible refine wkF fun _ _ _ => ?_ | with_reducible intro _ | exact ag | fail))
    exact fin0
  | true =>
    cases ok with
    | false =>
      have e : rstep true (ps, false) v = ((ps, false), v) := rfl
      simp only [e]
      rw [updS h1, updS h2, updS h3]
      (repeat' (first | refine wk ?_ | refine wk2 ?_ ?_ | with_reducible refine wkF fun _ _ _ => ?_ | with_reducible intro _ | exact ag | fail))
      exact fin0
    | true =>
      cases ps with
      | nil =>
        have e : rstep true ([], true) v = (([], false), v) := rfl
        simp only [e]
        rw [updS h1]
        have e3 : upd H bk (.cells [.s (.bool false)]) bp = some (.cells [.vs 1 (([] : List ByteArray).map s1)]) := by rw [upd_eq, if_neg n3.symm]; exact h3
        rw [updS e3]
        have z : ((([] : List ByteArray).map s1).length : Int) = 0 := rfl
        (repeat' (first | refine wk ?_ | refine wk2 ?_ ?_ | with_reducible refine wkF fun _ _ _ => ?_ | with_reducible intro _ | exact ag | fail))
        exact fin0
      | cons p q =>
        have e : rstep true (p :: q, true) v = ((q, (regV p).2), (regV p).1) := rfl
        simp only [e]
        clear e
        have R := R p
        simp only [List.map_cons, s1_def] at h3
        have z : ((([TV.s (.string p)] :: q.map s1).length : Nat) : Int) = ((q.length + 1 : Nat) : Int) := by simp
        have z2 : (((q.length + 1 : Nat) : Int) == 0) = false := by simp; omega
        have z3 : ([TV.s (.string p)] :: q.map s1).drop 1 = q.map s1 := rfl
        generalize (regV p).1 = rv at *
        generalize (regV p).2 = rk at *
        have z4 : (1 : Int) ≤ ((q.length + 1 : Nat) : Int) := by omega
        have z5 : (q.map s1).take (q.length + 1 - 1) = q.map s1 := by rw [List.take_of_length_le (by simp)]
        (repeat' (first | refine wk ?_ | refine wk2 ?_ ?_ | with_reducible refine wkF fun _ _ _ => ?_ | with_reducible intro _ | refine Calling.eq (R _) ?_ | exact ag | fail))
        refine ARun.done ?_
        exact fin0
theorem regA_c {bi bk bp : Nat} {ps : List ByteArray} {ok u : Bool} {v : Nat} {o d b i : Int} (h1 : H bi = some (.cells [.s (.int .u8 o), .s (.int .u8 d), .s (.int .u8 v), .s (.int .u8 b), .s (.int .i32 i)])) (h2 : H bk = some (.cells [.s (.bool ok)])) (h3 : H bp = some (.cells [.vs 1 (ps.map s1)])) (n1 : bi ≠ bk) (n2 : bi ≠ bp) (n3 : bk ≠ bp) :
    AC Tryz.prog 44 [.s (.bool u), .s (.pointer (some ⟨bi, 2, none⟩)), .s (.pointer (some ⟨bk, 0, none⟩)), .s (.pointer (some ⟨bp, 0, none⟩))] H (fun r H' => r = .tup [] ∧ H' = upd (upd (upd H bi (.cells [.s (.int .u8 o), .s (.int .u8 d), .s (.int .u8 ((rstep u (ps, ok) v).2 : Nat)), .s (.int .u8 b), .s (.int .i32 i)])) bk (.cells [.s (.bool (rstep u (ps, ok) v).1.2)])) bp (.cells [.vs 1 ((rstep u (ps, ok) v).1.1.map s1)])) := by
  refine AC.body Tryz.func44 rfl rfl (n := 26) (res := []) rfl rfl (by simp) ?_
  simp only [ent]
  have m1 : (bk = bi) = False := eq_false n1.symm
  have m2 : (bp = bi) = False := eq_false n2.symm
  have m3 : (bp = bk) = False := eq_false n3.symm
  have m4 : (bi = bk) = False := eq_false n1
  have m5 : (bi = bp) = False := eq_false n2
  have m6 : (bk = bp) = False := eq_false n3
  have R := fun p H => register_c p H
  cases u with
  | false =>
    have e : rstep false (ps, ok) v = ((ps, ok), v) := rfl
    simp only [e]
    rw [updS h1, updS h2, updS h3]
    (repeat' (first | refine wk ?_ | refine wk2 ?_ ?_ | with_reducible refine wkF fun _ _ _ => ?_ | with_reducible intro _ | exact ag | fail))
    exact fin0
  | true =>
    cases ok with
    | false =>
      have e : rstep true (ps, false) v = ((ps, false), v) := rfl
      simp only [e]
      rw [updS h1, updS h2, updS h3]
      (repeat' (first | refine wk ?_ | refine wk2 ?_ ?_ | with_reducible refine wkF fun _ _ _ => ?_ | with_reducible intro _ | exact ag | fail))
      exact fin0
    | true =>
      cases ps with
      | nil =>
        have e : rstep true ([], true) v = (([], false), v) := rfl
        simp only [e]
        rw [updS h1]
        have e3 : upd H bk (.cells [.s (.bool false)]) bp = some (.cells [.vs 1 (([] : List ByteArray).map s1)]) := by rw [upd_eq, if_neg n3.symm]; exact h3
        rw [updS e3]
        have z : ((([] : List ByteArray).map s1).length : Int) = 0 := rfl
        (repeat' (first | refine wk ?_ | refine wk2 ?_ ?_ | with_reducible refine wkF fun _ _ _ => ?_ | with_reducible intro _ | exact ag | fail))
        exact fin0
      | cons p q =>
        have e : rstep true (p :: q, true) v = ((q, (regV p).2), (regV p).1) := rfl
        simp only [e]
        clear e
        have R := R p
        simp only [List.map_cons, s1_def] at h3
        have z : ((([TV.s (.string p)] :: q.map s1).length : Nat) : Int) = ((q.length + 1 : Nat) : Int) := by simp
        have z2 : (((q.length + 1 : Nat) : Int) == 0) = false := by simp; omega
        have z3 : ([TV.s (.string p)] :: q.map s1).drop 1 = q.map s1 := rfl
        generalize (regV p).1 = rv at *
        generalize (regV p).2 = rk at *
        have z4 : (1 : Int) ≤ ((q.length + 1 : Nat) : Int) := by omega
        have z5 : (q.map s1).take (q.length + 1 - 1) = q.map s1 := by rw [List.take_of_length_le (by simp)]
        (repeat' (first | refine wk ?_ | refine wk2 ?_ ?_ | with_reducible refine wkF fun _ _ _ => ?_ | with_reducible intro _ | refine Calling.eq (R _) ?_ | exact ag | fail))
        refine ARun.done ?_
        exact fin0
theorem regB_c {bi bk bp : Nat} {ps : List ByteArray} {ok u : Bool} {v : Nat} {o d a i : Int} (h1 : H bi = some (.cells [.s (.int .u8 o), .s (.int .u8 d), .s (.int .u8 a), .s (.int .u8 v), .s (.int .i32 i)])) (h2 : H bk = some (.cells [.s (.bool ok)])) (h3 : H bp = some (.cells [.vs 1 (ps.map s1)])) (n1 : bi ≠ bk) (n2 : bi ≠ bp) (n3 : bk ≠ bp) :
    AC Tryz.prog 44 [.s (.bool u), .s (.pointer (some ⟨bi, 3, none⟩)), .s (.pointer (some ⟨bk, 0, none⟩)), .s (.pointer (some ⟨bp, 0, none⟩))] H (fun r H' => r = .tup [] ∧ H' = upd (upd (upd H bi (.cells [.s (.int .u8 o), .s (.int .u8 d), .s (.int .u8 a), .s (.int .u8 ((rstep u (ps, ok) v).2 : Nat)), .s (.int .i32 i)])) bk (.cells [.s (.bool (rstep u (ps, ok) v).1.2)])) bp (.cells [.vs 1 ((rstep u (ps, ok) v).1.1.map s1)])) := by
  refine AC.body Tryz.func44 rfl rfl (n := 26) (res := []) rfl rfl (by simp) ?_
  simp only [ent]
  have m1 : (bk = bi) = False := eq_false n1.symm
  have m2 : (bp = bi) = False := eq_false n2.symm
  have m3 : (bp = bk) = False := eq_false n3.symm
  have m4 : (bi = bk) = False := eq_false n1
  have m5 : (bi = bp) = False := eq_false n2
  have m6 : (bk = bp) = False := eq_false n3
  have R := fun p H => register_c p H
  cases u with
  | false =>
    have e : rstep false (ps, ok) v = ((ps, ok), v) := rfl
    simp only [e]
    rw [updS h1, updS h2, updS h3]
    (repeat' (first | refine wk ?_ | refine wk2 ?_ ?_ | with_reducible refine wkF fun _ _ _ => ?_ | with_reducible intro _ | exact ag | fail))
    exact fin0
  | true =>
    cases ok with
    | false =>
      have e : rstep true (ps, false) v = ((ps, false), v) := rfl
      simp only [e]
      rw [updS h1, updS h2, updS h3]
      (repeat' (first | refine wk ?_ | refine wk2 ?_ ?_ | with_reducible refine wkF fun _ _ _ => ?_ | with_reducible intro _ | exact ag | fail))
      exact fin0
    | true =>
      cases ps with
      | nil =>
        have e : rstep true ([], true) v = (([], false), v) := rfl
        simp only [e]
        rw [updS h1]
        have e3 : upd H bk (.cells [.s (.bool false)]) bp = some (.cells [.vs 1 (([] : List ByteArray).map s1)]) := by rw [upd_eq, if_neg n3.symm]; exact h3
        rw [updS e3]
        have z : ((([] : List ByteArray).map s1).length : Int) = 0 := rfl
        (repeat' (first | refine wk ?_ | refine wk2 ?_ ?_ | with_reducible refine wkF fun _ _ _ => ?_ | with_reducible intro _ | exact ag | fail))
        exact fin0
      | cons p q =>
        have e : rstep true (p :: q, true) v = ((q, (regV p).2), (regV p).1) := rfl
        simp only [e]
        clear e
        have R := R p
        simp only [List.map_cons, s1_def] at h3
        have z : ((([TV.s (.string p)] :: q.map s1).length : Nat) : Int) = ((q.length + 1 : Nat) : Int) := by simp
        have z2 : (((q.length + 1 : Nat) : Int) == 0) = false := by simp; omega
        have z3 : ([TV.s (.string p)] :: q.map s1).drop 1 = q.map s1 := rfl
        generalize (regV p).1 = rv at *
        generalize (regV p).2 = rk at *
        have z4 : (1 : Int) ≤ ((q.length + 1 : Nat) : Int) := by omega
        have z5 : (q.map s1).take (q.length + 1 - 1) = q.map s1 := by rw [List.take_of_length_le (by simp)]
        (repeat' (first | refine wk ?_ | refine wk2 ?_ ?_ | with_reducible refine wkF fun _ _ _ => ?_ | with_reducible intro _ | refine Calling.eq (R _) ?_ | exact ag | fail))
        refine ARun.done ?_
        exact fin0
end Go.Abs
/- What an operation uses, read: the whole. -/
namespace Go.Abs
set_option linter.unusedSimpArgs false
set_option linter.unusedVariables false
set_option maxHeartbeats 4000000
open Go.Proofs Go.Wd Go.RowKit
set_option linter.unusedVariables false
set_option linter.unusedSectionVars false
set_option maxRecDepth 8000
variable {H : Heap}
/-- What fill tells. -/
def fillP (o : Nat) (ps : List ByteArray) : Ins × Bool :=
  let s1 := rstep (usesR o).1 (ps, true) 0
  let s2 := rstep (usesR o).2.1 s1.1 0
  let s3 := rstep (usesR o).2.2.1 s2.1 0
  if ((usesR o).2.2.2 && s3.1.2) = true then match s3.1.1 with
    | [] => (⟨o, s1.2, s2.2, s3.2, 0⟩, false)
    | p :: q => if piE p = true then (⟨o, s1.2, s2.2, s3.2, 0⟩, false) else (⟨o, s1.2, s2.2, s3.2, piV p⟩, decide (q.length = 0))
  else (⟨o, s1.2, s2.2, s3.2, 0⟩, s3.1.2 && decide (s3.1.1.length = 0))
theorem pi_range {s : ByteArray} (h : piE s = false) : -2147483648 ≤ piV s ∧ piV s < 2147483648 := by
  unfold piE at h
  unfold piV
  cases hp : Lib.parseIntB 32 s.data.toList with
  | ok v =>
    simp only []
    unfold Lib.parseIntB at hp
    split at hp
    · cases hp
    · rename_i c r _
      simp only [] at hp
      split at hp
      · cases hp
      · cases hp
      · rename_i u hu
        split at hp
        · cases hp
        · rename_i q1
          split at hp
          · cases hp
          · rename_i q2
            have hp := Lib.NumEnd.ok.inj hp
            subst hp
            simp only [not_and, Nat.not_le, Nat.not_lt] at q1 q2
            split
            · rename_i h45; have := q2 h45; constructor <;> omega
            · rename_i h45; have := q1 h45; constructor <;> omega
  | _ => rw [hp] at h; cases h
theorem rstep_lt (u : Bool) (st : List ByteArray × Bool) (v : Nat) (hv : v < 256) : (rstep u st v).2 < 256 := by
  unfold rstep
  split
  · split
    · exact hv
    · rename_i p q _
      show (regV p).1 < 256
      unfold regV
      split
      · rename_i h; show (p.get! 1).toNat - 48 < 256; omega
      · decide
  · exact hv
theorem rstep_mem {u : Bool} {st : List ByteArray × Bool} {v : Nat} {p : ByteArray} (h : p ∈ (rstep u st v).1.1) : p ∈ st.1 := by
  unfold rstep at h
  split at h
  · split at h
    · cases h
    · rename_i a b e; rw [e]; exact List.mem_cons_of_mem _ h
  · exact h
theorem fill_ok {o : Nat} (ho : o < 256) (ps : List ByteArray) : (fillP o ps).1.ok := by
  have a1 := rstep_lt (usesR o).1 (ps, true) 0 (by decide)
  have a2 := rstep_lt (usesR o).2.1 (rstep (usesR o).1 (ps, true) 0).1 0 (by decide)
  have a3 := rstep_lt (usesR o).2.2.1 (rstep (usesR o).2.1 (rstep (usesR o).1 (ps, true) 0).1 0).1 0 (by decide)
  unfold fillP
  simp only []
  split
  · split
    · exact ⟨ho, a1, a2, a3, (show (-2147483648 : Int) ≤ 0 by decide), (show (0 : Int) < 2147483648 by decide)⟩
    · split
      · exact ⟨ho, a1, a2, a3, (show (-2147483648 : Int) ≤ 0 by decide), (show (0 : Int) < 2147483648 by decide)⟩
      · rename_i h
        obtain ⟨b1, b2⟩ := pi_range (Bool.eq_false_iff.mpr h)
        exact ⟨ho, a1, a2, a3, b1, b2⟩
  · exact ⟨ho, a1, a2, a3, (show (-2147483648 : Int) ≤ 0 by decide), (show (0 : Int) < 2147483648 by decide)⟩
set_option maxHeartbeats 4000000 in
theorem fill_c {G : Heap} (g : GA G) (hs : Sub G H) {o : Nat} (ho : o < 256) {ps : List ByteArray} (hps : ∀ p ∈ ps, p.size ≤ 281474976710656) :
    AC Tryz.prog 27 [.s (.int .u8 o), .vs 1 (ps.map s1)] H (fun r H' => r = .tup [.agg (fillP o ps).1.enc, .s (.bool (fillP o ps).2)] ∧ H' = H) := by
  refine AC.body Tryz.func27 rfl rfl (n := 65) (res := [.cell 4 24, .cell 5 4]) rfl rfl (by simp) ?_
  simp only [ent]
  have hU := fun H => uses_c (H := H) (o := o)
  have PI := fun (K : Heap) (hK : Sub H K) (p : ByteArray) hp => parse_c g (hs.trans hK) (s := p) hp
  have hu : usesR o = ((usesR o).1, (usesR o).2.1, (usesR o).2.2.1, (usesR o).2.2.2) := rfl
  have hmem : ∀ p ∈ (rstep (usesR o).2.2.1 (rstep (usesR o).2.1 (rstep (usesR o).1 (ps, true) 0).1 0).1 0).1.1, p.size ≤ 281474976710656 := fun p hp => hps p (rstep_mem (rstep_mem (rstep_mem hp)))
  unfold fillP
  simp only []
  generalize (usesR o).1 = u1 at *
  generalize (usesR o).2.1 = u2 at *
  generalize (usesR o).2.2.1 = u3 at *
  generalize (usesR o).2.2.2 = u4 at *
  rw [hu] at hU
  simp only [b4_mk] at hU
  clear hu g hs ho hps
  replace PI := later PI
  replace hmem := later hmem
  (repeat' (first | refine wk ?_ | refine wk2 ?_ ?_ | with_reducible refine wkF fun _ _ _ => ?_ | with_reducible intro _ | refine Calling.eq (hU _) ?_ | exact ag | fail))
  rename_i bp hbp hbpn bi hbi hbin bk hbk hbkn
  have n1 : bi ≠ bk := none_at hbk (upd_self _ _ _)
  have n2 : bi ≠ bp := (none_at hbi (upd_self _ _ _)).symm
  have n3 : bk ≠ bp := (none_at hbk (by rw [upd_eq, if_neg n2.symm]; exact upd_self _ _ _)).symm
  have m1 : (bk = bi) = False := eq_false n1.symm
  have m2 : (bp = bi) = False := eq_false n2.symm
  have m3 : (bp = bk) = False := eq_false n3.symm
  have m4 : (bi = bk) = False := eq_false n1
  have m5 : (bi = bp) = False := eq_false n2
  have m6 : (bk = bp) = False := eq_false n3
  refine Calling.by (regD_c (ps := ps) (ok := true) (v := 0) (o := o) (a := 0) (b := 0) (i := 0) ag ag ag n1 n2 n3) ?_
  rintro _ _ ⟨rfl, rfl⟩
  generalize rstep u1 (ps, true) 0 = R1 at *
  obtain ⟨⟨p1, k1⟩, v1⟩ := R1
  simp only [] at hmem ⊢
  (repeat' (first | refine wk ?_ | refine wk2 ?_ ?_ | with_reducible refine wkF fun _ _ _ => ?_ | with_reducible intro _ | exact ag | fail))
  refine Calling.by (regA_c (ps := p1) (ok := k1) (v := 0) (o := o) (d := v1) (b := 0) (i := 0) ag ag ag n1 n2 n3) ?_
  rintro _ _ ⟨rfl, rfl⟩
  generalize rstep u2 (p1, k1) 0 = R2 at *
  obtain ⟨⟨p2, k2⟩, v2⟩ := R2
  simp only [] at hmem ⊢
  (repeat' (first | refine wk ?_ | refine wk2 ?_ ?_ | with_reducible refine wkF fun _ _ _ => ?_ | with_reducible intro _ | exact ag | fail))
  refine Calling.by (regB_c (ps := p2) (ok := k2) (v := 0) (o := o) (d := v1) (a := v2) (i := 0) ag ag ag n1 n2 n3) ?_
  rintro _ _ ⟨rfl, rfl⟩
  generalize rstep u3 (p2, k2) 0 = R3 at *
  obtain ⟨⟨p3, k3⟩, v3⟩ := R3
  simp only [] at hmem ⊢
  have hbi0 := nu1 hbi
  have hbk0 := nu2 hbk
  have hl : (((p3.length : Nat) : Int) == 0) = decide (p3.length = 0) := by rw [Bool.eq_iff_iff]; simp
  clear hbi hbk hbpn hbin hbkn hU
  cases u4 with
  | false =>
    rw [if_neg (by simp)]
    cases k3 with
    | false =>
      (repeat' (first | refine wk ?_ | refine wk2 ?_ ?_ | with_reducible refine wkF fun _ _ _ => ?_ | with_reducible intro _ | exact ag | fail))
      refine ARun.drawT mixed [0, 1, 2, 3, 4, 5, 6] (.alt 7 [1, 3, 4, 5, 6] [] (.alt 8 [] [] .leaf .nil) .nil) (by kernel_rfl) (by rfl) ?_
      all_goals (repeat' (first | refine wk ?_ | refine wk2 ?_ ?_ | with_reducible refine wkF fun _ _ _ => ?_ | with_reducible intro _ | exact ag | fail))
      all_goals exact Fin.plain agr (by exact sb) ⟨by simp [resV, Ins.enc_def], rfl⟩
    | true =>
      generalize decide (p3.length = 0) = z at *
      (repeat' (first | refine wk ?_ | refine wk2 ?_ ?_ | with_reducible refine wkF fun _ _ _ => ?_ | with_reducible intro _ | exact ag | fail))
      refine ARun.drawT mixed [0, 1, 2, 3, 4, 5, 6] (.alt 7 [1, 3, 4, 5, 6] [] (.alt 8 [] [] .leaf .nil) .nil) (by kernel_rfl) (by rfl) ?_
      all_goals (repeat' (first | refine wk ?_ | refine wk2 ?_ ?_ | with_reducible refine wkF fun _ _ _ => ?_ | with_reducible intro _ | exact ag | fail))
      all_goals exact Fin.plain agr (by exact sb) ⟨by simp [resV, Ins.enc_def], rfl⟩
  | true =>
    cases k3 with
    | false =>
      rw [if_neg (by simp)]
      (repeat' (first | refine wk ?_ | refine wk2 ?_ ?_ | with_reducible refine wkF fun _ _ _ => ?_ | with_reducible intro _ | exact ag | fail))
      refine ARun.drawT mixed [0, 1, 2, 3, 4, 5, 6] (.alt 7 [1, 3, 4, 5, 6] [] (.alt 8 [] [] .leaf .nil) .nil) (by kernel_rfl) (by rfl) ?_
      all_goals (repeat' (first | refine wk ?_ | refine wk2 ?_ ?_ | with_reducible refine wkF fun _ _ _ => ?_ | with_reducible intro _ | exact ag | fail))
      all_goals exact Fin.plain agr (by exact sb) ⟨by simp [resV, Ins.enc_def], rfl⟩
    | true =>
      rw [if_pos (by simp)]
      cases p3 with
      | nil =>
        have z0 : ((([] : List ByteArray).map s1).length : Int) = 0 := rfl
        simp only []
        clear hl
        (repeat' (first | refine wk ?_ | refine wk2 ?_ ?_ | with_reducible refine wkF fun _ _ _ => ?_ | with_reducible intro _ | exact ag | fail))
        exact Fin.plain agr (by exact sb) ⟨by simp [resV, Ins.enc_def], rfl⟩
      | cons p q =>
        simp only []
        have hp := hmem.go p (by simp)
        simp only [List.map_cons, s1_def]
        have z : ((([TV.s (.string p)] :: q.map s1).length : Nat) : Int) = ((q.length + 1 : Nat) : Int) := by simp
        have z2 : (((q.length + 1 : Nat) : Int) == 0) = false := by simp; omega
        have z4 : (1 : Int) ≤ ((q.length + 1 : Nat) : Int) := by omega
        have z5 : (q.map s1).take (q.length + 1 - 1) = q.map s1 := by rw [List.take_of_length_le (by simp)]
        have hq : (((q.length : Nat) : Int) == 0) = decide (q.length = 0) := by rw [Bool.eq_iff_iff]; simp
        clear hl hmem
        (repeat' (first | refine wk ?_ | refine wk2 ?_ ?_ | with_reducible refine wkF fun _ _ _ => ?_ | with_reducible intro _ | exact ag | fail))
        refine Calling.by (PI.go _ (by exact sb) p hp) ?_
        rintro _ _ ⟨e, he, rfl, rfl⟩
        cases hpi : piE p with
        | true =>
          rw [hpi] at he
          obtain ⟨t, v, rfl⟩ := he
          rw [if_pos rfl]
          (repeat' (first | refine wk ?_ | refine wk2 ?_ ?_ | with_reducible refine wkF fun _ _ _ => ?_ | with_reducible intro _ | exact ag | fail))
          exact Fin.plain agr (by exact sb) ⟨by simp [resV, Ins.enc_def], rfl⟩
        | false =>
          rw [hpi] at he
          obtain rfl : e = .nilIface := he
          rw [if_neg (by decide)]
          have hw : IntKind.i32.wrap (piV p) = piV p := by
            obtain ⟨b1, b2⟩ := pi_range hpi
            rw [IntKind.wrap_i32]; omega
          generalize piV p = pv at *
          generalize decide (q.length = 0) = z at *
          refine wa ?_
          refine ARun.seq ?_
          refine ARun.seq ?_
          refine ARun.nilErr ?_ ?_ ?_ ?_
          · rfl
          · exact ag
          · rfl
          (repeat' (first | refine wk ?_ | refine wk2 ?_ ?_ | with_reducible refine wkF fun _ _ _ => ?_ | with_reducible intro _ | exact ag | fail))
          refine ARun.drawT mixed [0, 1, 2, 3, 4] (.alt 5 [2, 3] [] (.alt 6 [] [] .leaf .nil) .nil) (by kernel_rfl) (by rfl) ?_
          all_goals (repeat' (first | refine wk ?_ | refine wk2 ?_ ?_ | with_reducible refine wkF fun _ _ _ => ?_ | with_reducible intro _ | exact ag | fail))
          all_goals refine ARun.drawT mixed [0, 1, 2, 3, 4, 5, 6] (.alt 7 [1, 3, 4, 5, 6] [] (.alt 8 [] [] .leaf .nil) .nil) (by kernel_rfl) (by rfl) ?_
          all_goals (repeat' (first | refine wk ?_ | refine wk2 ?_ ?_ | with_reducible refine wkF fun _ _ _ => ?_ | with_reducible intro _ | exact ag | fail))
          all_goals exact Fin.plain agr (by exact sb) ⟨by simp [resV, Ins.enc_def], rfl⟩
end Go.Abs
/- Texts in pieces, pure; the program's Parse. -/
namespace Go.Abs
set_option linter.unusedSimpArgs false
set_option linter.unusedVariables false
set_option maxHeartbeats 4000000
open Go.Proofs Go.Wd Go.RowKit
set_option linter.unusedVariables false
set_option linter.unusedSectionVars false
set_option maxRecDepth 8000
variable {H : Heap}
/-- A list cut at each c. -/
def splL (c : UInt8) : List UInt8 → List (List UInt8)
  | [] => [[]]
  | x :: l => if x = c then [] :: splL c l else match splL c l with
    | [] => [[x]]
    | p :: ps => (x :: p) :: ps
theorem splL_ne (c : UInt8) (l : List UInt8) : splL c l ≠ [] := by
  cases l with
  | nil => simp [splL]
  | cons x l =>
    unfold splL
    split
    · simp
    · split <;> simp
theorem splL_app {c : UInt8} : ∀ {p r : List UInt8}, c ∉ p → splL c (p ++ c :: r) = p :: splL c r
  | [], r, _ => by simp [splL]
  | x :: p, r, h => by
    simp only [List.mem_cons, not_or] at h
    rw [List.cons_append, splL, if_neg (fun e => h.1 e.symm), splL_app h.2]
theorem splL_no {c : UInt8} : ∀ {p : List UInt8}, c ∉ p → splL c p = [p]
  | [], _ => rfl
  | x :: p, h => by
    simp only [List.mem_cons, not_or] at h
    rw [splL, if_neg (fun e => h.1 e.symm), splL_no h.2]
theorem not_mem_of_get {c : UInt8} {l : List UInt8} (h : ∀ k : Nat, l[k]? ≠ some c) : c ∉ l := fun hm => by
  obtain ⟨k, hk⟩ := List.mem_iff_getElem?.1 hm
  exact h k hk
theorem splK_eq (c : UInt8) : ∀ (n : Nat) (s : List UInt8), s.length ≤ n → Lib.splitK [c] 0 (Lib.count s [c]) s = splL c s ∧ (splL c s).length = Lib.count s [c] + 1 := by
  intro n
  induction n with
  | zero =>
    intro s hs
    have : s = [] := List.length_eq_zero_iff.1 (by omega)
    subst this
    have h : Lib.index [] [c] = -1 := by rw [Lib.index_one]; rfl
    rw [Lib.count_miss h]
    exact ⟨rfl, rfl⟩
  | succ n ih =>
    intro s hs
    have hge := Lib.index_ge s [c]
    rcases Int.lt_or_le (Lib.index s [c]) 0 with h | h
    · have h1 : Lib.index s [c] = -1 := by omega
      rw [Lib.count_miss h1]
      rw [Lib.index_one] at h1
      rw [splL_no (not_mem_of_get (Lib.indexByte_none h1))]
      exact ⟨rfl, rfl⟩
    · obtain ⟨i, hi⟩ : ∃ i : Nat, Lib.index s [c] = i := ⟨(Lib.index s [c]).toNat, by omega⟩
      have hi2 := hi
      rw [Lib.index_one] at hi2
      obtain ⟨g1, g2⟩ := Lib.indexByte_some hi2
      have hlt : i < s.length := (List.getElem?_eq_some_iff.1 g1).1
      have hs2 : s = s.take i ++ c :: s.drop (i + 1) := by
        have e1 : s.drop i = c :: s.drop (i + 1) := by
          rw [List.drop_eq_getElem_cons hlt, (List.getElem?_eq_some_iff.1 g1).2]
        rw [← e1, List.take_append_drop]
      have hno : c ∉ s.take i := not_mem_of_get fun k hk => by
        have hk' : k < i := by
          have := (List.getElem?_eq_some_iff.1 hk).1
          rw [List.length_take] at this; omega
        rw [List.getElem?_take, if_pos hk'] at hk
        exact g2 k hk' hk
      have hc := Lib.count_hit (s := s) (sub := [c]) (i := i) (by simp) hi
      have hlen : ([c] : List UInt8).length = 1 := rfl
      rw [hlen] at hc
      obtain ⟨q1, q2⟩ := ih (s.drop (i + 1)) (by rw [List.length_drop]; omega)
      have hspl : splL c s = s.take i :: splL c (s.drop (i + 1)) := by
        conv => lhs; rw [hs2]
        exact splL_app hno
      rw [hspl, hc, show 1 + Lib.count (s.drop (i + 1)) [c] = Lib.count (s.drop (i + 1)) [c] + 1 by omega]
      refine ⟨?_, by rw [List.length_cons, q2]⟩
      unfold Lib.splitK
      have hm : ¬ (Lib.index s [c] == -1) = true := fun e => by have := beq_iff_eq.1 e; omega
      rw [if_neg hm, hi, Int.toNat_natCast, Nat.add_zero, hlen, q1]
theorem pieces_data (s : ByteArray) (c : UInt8) : (pieces s c).map (·.data.toList) = splL c s.data.toList := by
  unfold pieces
  rw [Lib.splitB_data]
  exact (splK_eq c _ _ (Nat.le_refl _)).1
theorem pieces_eq (s : ByteArray) (c : UInt8) : pieces s c = (splL c s.data.toList).map mk := by
  rw [← pieces_data, List.map_map]
  conv => lhs; rw [← List.map_id (pieces s c)]
  exact List.map_congr_left fun x _ => (mk_self x).symm
theorem pieces_len (s : ByteArray) (c : UInt8) : (pieces s c).length = Lib.countB s ⟨#[c]⟩ + 1 := by
  rw [pieces_eq, List.length_map, (splK_eq c _ _ (Nat.le_refl _)).2]
  try rfl
theorem splL_size (c : UInt8) : ∀ (l : List UInt8), ∀ p ∈ splL c l, p.length ≤ l.length
  | [], p, h => by simp [splL] at h; subst h; exact Nat.le_refl _
  | x :: l, p, h => by
    have ih := splL_size c l
    unfold splL at h
    split at h
    · rcases List.mem_cons.1 h with rfl | h
      · exact Nat.zero_le _
      · have := ih p h; rw [List.length_cons]; omega
    · split at h
      · rename_i e; exact absurd e (splL_ne c l)
      · rename_i a b e
        rw [e] at ih
        rcases List.mem_cons.1 h with rfl | h
        · have := ih a (by simp); simp only [List.length_cons]; omega
        · have := ih p (by simp [h]); rw [List.length_cons]; omega
theorem pieces_size {s : ByteArray} {c : UInt8} : ∀ p ∈ pieces s c, p.size ≤ s.size := fun p h => by
  rw [pieces_eq] at h
  obtain ⟨l, hl, rfl⟩ := List.mem_map.1 h
  have := splL_size c _ l hl
  rw [mk_size]
  have e : s.data.toList.length = s.size := Array.length_toList
  omega
/-- Whose name a text is. -/
def opAt (w : ByteArray) : Option Nat := opN.findIdx? fun x => decide (x = w)
/-- What is read, if it is printed so. -/
def parF (ok : Bool) (f : Ins) (s : ByteArray) : Ins × Int := if ok = true ∧ f.chk = 0 ∧ f.pr = s then (f, 0) else (Ins.zero, 60)
/-- What Parse tells. -/
def parP (s : ByteArray) : Ins × Int :=
  match opAt ((pieces s 32).headD ⟨#[]⟩) with
  | none => (Ins.zero, 60)
  | some o => parF (fillP o (pieces s 32).tail).2 (fillP o (pieces s 32).tail).1 s
theorem opAt_none {w : ByteArray} (h : ∀ (j : Nat) x, opN[j]? = some x → x ≠ w) : opAt w = none := by
  unfold opAt
  rw [List.findIdx?_eq_none_iff]
  intro x hx
  obtain ⟨j, hj⟩ := List.mem_iff_getElem?.1 hx
  simpa using h j x hj
theorem opAt_some {w : ByteArray} {i : Nat} (hi : opN[i]? = some w) (h : ∀ (j : Nat) x, j < i → opN[j]? = some x → x ≠ w) : opAt w = some i := by
  obtain ⟨hlt, hx⟩ := List.getElem?_eq_some_iff.1 hi
  unfold opAt
  rw [List.findIdx?_eq_some_iff_getElem]
  refine ⟨hlt, by simpa using hx, fun j hj => ?_⟩
  have := h j _ hj (List.getElem?_eq_getElem (by omega))
  simpa using this
theorem str_dec (a b : ByteArray) : (a.toList == b.toList) = decide (a = b) := by
  rw [ByteArray.toList_eq, ByteArray.toList_eq, Bool.eq_iff_iff, beq_iff_eq, decide_eq_true_iff]
  refine ⟨fun h => ?_, fun h => by rw [h]⟩
  rw [← mk_self a, h, mk_self]
def nmT : List TV := opN.map fun x => TV.s (.string x)
set_option maxHeartbeats 4000000 in
theorem parseP_c {G : Heap} (g : GA G) (hN : NamesAt G) (hs : Sub G H) {s : ByteArray} (hz : s.size < 4294967281) : AC Tryz.prog 13 [.s (.string s)] H (fun r H' => r = .tup [.agg (parP s).1.enc, .s (.int .i64 (parP s).2)] ∧ H' = H) := by
  obtain ⟨w, tl, hw⟩ : ∃ w tl, pieces s 32 = w :: tl := by
    cases h : pieces s 32 with
    | nil => have := pieces_len s 32; rw [h] at this; simp at this
    | cons w tl => exact ⟨w, tl, rfl⟩
  have htl : ∀ p ∈ tl, p.size ≤ 281474976710656 := fun p hp => by
    have := pieces_size (s := s) (c := 32) p (by rw [hw]; exact List.mem_cons_of_mem _ hp); omega
  have SP := fun (K : Heap) (hK : Sub H K) => split_c g (hs.trans hK) (s := s) (c := 32) hz (pieces_len s 32)
  have FI := fun (K : Heap) (hK : Sub H K) (o : Nat) (ho : o < 256) => fill_c g (hs.trans hK) ho (ps := tl) htl
  have PR := fun (K : Heap) (hK : Sub H K) (o : Nat) (ho : o < 256) => print_c g hN (hs.trans hK) (fill_ok ho tl)
  rw [hw] at SP
  unfold parP
  rw [hw]
  simp only [List.headD_cons, List.tail_cons]
  obtain ⟨c, e, fz, hG, hc⟩ := hN
  have hk := hs _ _ hG
  have hl22 : 22 ≤ c.toList.length := by
    have := (Array.getElem?_eq_some_iff.1 (hc 21 _ rfl)).1
    rw [Array.length_toList]; omega
  have ht22 : (c.toList.map TV.s).take 22 = nmT := by
    apply List.ext_getElem?
    intro i
    unfold nmT
    rw [List.getElem?_take, List.getElem?_map, List.getElem?_map]
    by_cases hi : i < 22
    · rw [if_pos hi]
      have hx : opN[i]? = some (opN[i]'(by rw [opN_len]; exact hi)) := List.getElem?_eq_getElem _
      rw [Array.getElem?_toList, hc i _ hx, hx]; rfl
    · rw [if_neg hi, List.getElem?_eq_none (by rw [opN_len]; omega)]; rfl
  simp only [List.map_cons, s1_def] at SP
  replace SP := later SP
  replace FI := later FI
  replace PR := later PR
  clear g hs hG htl hw hz hc
  refine AC.body Tryz.func13 rfl rfl (n := 50) (res := [.cell 2 24, .tmp 3]) rfl rfl (by simp) ?_
  simp only [ent]
  (repeat' (first | refine wk ?_ | refine wk2 ?_ ?_ | with_reducible refine wkF fun _ _ _ => ?_ | with_reducible intro _ | refine Calling.eq (SP.go _ (by exact sb)) ?_ | exact ag | fail))
  rename_i b0 hb0 hb0n
  have hsK : Sub H (upd H b0 (.cells [.s (.int .u8 0), .s (.int .u8 0), .s (.int .u8 0), .s (.int .u8 0), .s (.int .i32 0)])) := Sub.upd (Sub.refl _) hb0
  have z4 : (1 : Int) ≤ ((tl.length + 1 : Nat) : Int) := by omega
  have z5 : (tl.map s1).take (tl.length + 1 - 1) = tl.map s1 := by rw [List.take_of_length_le (by simp)]
  refine ARun.rounds (fun i : Nat => ⟨[(0, .s (.string s)), (2, .s (.pointer (some ⟨b0, 0, none⟩))), (4, .vs 1 ([TV.s (.string w)] :: tl.map s1)), (13, .agg nmT), (14, .s (.int .i64 i))], upd H b0 (.cells [.s (.int .u8 0), .s (.int .u8 0), .s (.int .u8 0), .s (.int .u8 0), .s (.int .i32 0)])⟩)
    (fun i => 22 - i) (fun i => i ≤ 22 ∧ ∀ (j : Nat) x, j < i → opN[j]? = some x → x ≠ w) ?_ 0 ⟨by omega, fun j x h => by omega⟩ ?_
  · rintro i ⟨hi, hno⟩ next
    have e0 : (0 : Int) ≤ i := by omega
    by_cases hlt : i < 22
    · have e1 : (i : Int) < 22 := by omega
      have hw1 := w64s (i := i) (by omega)
      have hx : opN[i]? = some (opN[i]'(by rw [opN_len]; exact hlt)) := List.getElem?_eq_getElem _
      generalize opN[i]'(by rw [opN_len]; exact hlt) = x at hx
      have hn : nmT[i]? = some (.s (.string x)) := by unfold nmT; rw [List.getElem?_map, hx]; rfl
      by_cases hxw : x = w
      · subst hxw
        rw [opAt_some hx hno]
        simp only []
        have hse : (x.toList == x.toList) = true := by simp
        have FI' := fun K hK => FI.go K hK i (by omega)
        have PR' := fun K hK => PR.go K hK i (by omega)
        have w8 : IntKind.u8.wrap (i : Int) = i := w8 (by omega) (by omega)
        replace hno := later hno
        clear next hx FI PR SP
        rcases Bool.eq_false_or_eq_true (fillP i tl).2 with hok | hok
        · rw [hok] at FI'
          by_cases hck : (fillP i tl).1.chk = 0
          · rw [hck] at PR'
            by_cases hpr : (fillP i tl).1.pr = s
            · have hv : parF (fillP i tl).2 (fillP i tl).1 s = ((fillP i tl).1, 0) := if_pos ⟨hok, hck, hpr⟩
              rw [hv]
              rw [hpr] at PR'
              have hse2 : (s.toList == s.toList) = true := by simp
              clear hok hck hpr hv
              generalize (fillP i tl).1 = f at *
              replace FI' := later FI'
              replace PR' := later PR'
              simp only [Ins.enc_def] at FI' PR' ⊢
              (repeat' (first | refine wk ?_ | refine wk2 ?_ ?_ | with_reducible refine wkF fun _ _ _ => ?_ | with_reducible intro _ | refine Calling.eq (FI'.go _ (by exact sb)) ?_ | refine Calling.eq (PR'.go _ (by exact sb)) ?_ | exact ag | fail))
              exact Fin.plain agr (by exact sb) ⟨rfl, rfl⟩
            · have hv : parF (fillP i tl).2 (fillP i tl).1 s = (Ins.zero, 60) := if_neg fun h => hpr h.2.2
              rw [hv]
              have hse2 : ((fillP i tl).1.pr.toList == s.toList) = false := by rw [str_dec]; simpa using hpr
              clear hok hck hpr hv
              generalize (fillP i tl).1.pr = fp at *
              generalize (fillP i tl).1 = f at *
              replace FI' := later FI'
              replace PR' := later PR'
              simp only [Ins.enc_def, Ins.zero] at FI' PR' ⊢
              (repeat' (first | refine wk ?_ | refine wk2 ?_ ?_ | with_reducible refine wkF fun _ _ _ => ?_ | with_reducible intro _ | refine Calling.eq (FI'.go _ (by exact sb)) ?_ | refine Calling.eq (PR'.go _ (by exact sb)) ?_ | exact ag | fail))
              exact Fin.plain agr (by exact sb) ⟨rfl, rfl⟩
          · have hv : parF (fillP i tl).2 (fillP i tl).1 s = (Ins.zero, 60) := if_neg fun h => hck h.2.1
            rw [hv]
            have hck2 : ((fillP i tl).1.chk != 0) = true := by simpa using hck
            clear hok hck hv
            generalize (fillP i tl).1.chk = fc at *
            generalize (fillP i tl).1.pr = fp at *
            generalize (fillP i tl).1 = f at *
            replace FI' := later FI'
            replace PR' := later PR'
            simp only [Ins.enc_def, Ins.zero] at FI' PR' ⊢
            (repeat' (first | refine wk ?_ | refine wk2 ?_ ?_ | with_reducible refine wkF fun _ _ _ => ?_ | with_reducible intro _ | refine Calling.eq (FI'.go _ (by exact sb)) ?_ | refine Calling.eq (PR'.go _ (by exact sb)) ?_ | exact ag | fail))
            exact Fin.plain agr (by exact sb) ⟨rfl, rfl⟩
        · rw [hok] at FI'
          have hv : parF (fillP i tl).2 (fillP i tl).1 s = (Ins.zero, 60) := if_neg fun h => by rw [hok] at h; cases h.1
          rw [hv]
          clear hok hv
          generalize (fillP i tl).1.chk = fc at *
          generalize (fillP i tl).1.pr = fp at *
          generalize (fillP i tl).1 = f at *
          replace FI' := later FI'
          replace PR' := later PR'
          simp only [Ins.enc_def, Ins.zero] at FI' PR' ⊢
          (repeat' (first | refine wk ?_ | refine wk2 ?_ ?_ | with_reducible refine wkF fun _ _ _ => ?_ | with_reducible intro _ | refine Calling.eq (FI'.go _ (by exact sb)) ?_ | refine Calling.eq (PR'.go _ (by exact sb)) ?_ | exact ag | fail))
          exact Fin.plain agr (by exact sb) ⟨rfl, rfl⟩
      · have hse : (x.toList == w.toList) = false := by rw [str_dec]; simpa using hxw
        have nx := next.go (i + 1) ⟨by omega, fun j y hj hy => by
          rcases Nat.lt_or_ge j i with h | h
          · exact hno j y h hy
          · obtain rfl : j = i := by omega
            rw [hx] at hy; cases hy; exact hxw⟩ (by omega)
        replace nx := later nx
        clear next hno hx FI PR SP
        (repeat' (first | refine wk ?_ | refine wk2 ?_ ?_ | with_reducible refine wkF fun _ _ _ => ?_ | with_reducible intro _ | exact ag | fail))
        exact ARun.weaken nx.go (leK (Sub.refl _))
    · obtain rfl : i = 22 := by omega
      rw [opAt_none (fun j x hx => hno j x (by have := (List.getElem?_eq_some_iff.1 hx).1; rw [opN_len] at this; exact this) hx)]
      clear next hno FI PR SP
      simp only [Ins.enc_def, Ins.zero]
      (repeat' (first | refine wk ?_ | refine wk2 ?_ ?_ | with_reducible refine wkF fun _ _ _ => ?_ | with_reducible intro _ | exact ag | fail))
      exact Fin.plain agr (by exact sb) ⟨rfl, rfl⟩
  · exact leK (Sub.refl _)
end Go.Abs
/- A line's word. -/
namespace Go.Abs
set_option linter.unusedSimpArgs false
set_option linter.unusedVariables false
set_option maxHeartbeats 4000000
open Go.Proofs Go.Wd Go.RowKit
set_option linter.unusedVariables false
set_option linter.unusedSectionVars false
set_option maxRecDepth 8000
variable {H : Heap}
/-- A digit's number. -/
def hexD (c : Nat) : Option Nat := if 48 ≤ c ∧ c ≤ 57 then some (c - 48) else if 97 ≤ c ∧ c ≤ 102 then some (c - 97 + 10) else none
/-- A word's digits from place i on. -/
def wparF (s : ByteArray) : Nat → Nat → Nat → Option Nat
  | 0, _, w => some w
  | f + 1, i, w => match hexD (s.get! i).toNat with
    | some d => wparF s f (i + 1) (((w <<< 4) % 2 ^ 32) ||| d)
    | none => none
def wpar (s : ByteArray) : Nat × Int := if s.size = 8 then (match wparF s 8 0 0 with | some w => (w, 0) | none => (0, 4)) else (0, 4)
theorem hexD_lt {c d : Nat} (h : hexD c = some d) : d < 16 := by
  unfold hexD at h
  split at h
  · cases h; omega
  · split at h
    · cases h; omega
    · cases h
set_option maxHeartbeats 1000000 in
theorem wparse_c (s : ByteArray) (H : Heap) : AC Tryz.prog 58 [.s (.string s)] H (fun r H' => r = .tup [.s (.int .u32 ((wpar s).1 : Nat)), .s (.int .i64 (wpar s).2)] ∧ H' = H) := by
  refine AC.body Tryz.func58 rfl rfl (n := 47) (res := [.tmp 2, .tmp 3]) rfl rfl (by simp) ?_
  simp only [ent]
  by_cases hz : s.size = 8
  · have q0 : ((s.size : Int) != 8) = false := by simp; omega
    have hv : wpar s = (match wparF s 8 0 0 with | some w => (w, 0) | none => (0, 4)) := if_pos hz
    rw [hv]
    have hsz : (s.size : Int) = 8 := by omega
    (repeat' (first | refine wk ?_ | refine wk2 ?_ ?_ | with_reducible refine wkF fun _ _ _ => ?_ | with_reducible intro _ | exact ag | fail))
    refine ARun.rounds (fun st : Nat × Nat => ⟨[(0, .s (.string s)), (4, .s (.int .u32 (st.2 : Nat))), (11, .s (.int .i64 8)), (12, .s (.int .i64 (st.1 : Nat)))], H⟩)
      (fun st => 8 - st.1) (fun st => st.1 ≤ 8 ∧ st.2 < 2 ^ 32 ∧ wparF s 8 0 0 = wparF s (8 - st.1) st.1 st.2) ?_ (0, 0) ⟨by omega, by decide, rfl⟩ ?_
    · rintro ⟨i, w⟩ ⟨hi, hw, hst⟩ next
      simp only [] at hi hw hst ⊢
      have e0 : (0 : Int) ≤ i := by omega
      by_cases hlt : i < 8
      · have e1 : (i : Int) < 8 := by omega
        have hw1 := w64s (i := i) (by omega)
        have ix := ixA (s := s) (i := i) (by omega) (k := .i64)
        have hst2 : wparF s 8 0 0 = match hexD (s.get! i).toNat with | some d => wparF s (8 - (i + 1)) (i + 1) (((w <<< 4) % 2 ^ 32) ||| d) | none => none := by
          rw [hst, show 8 - i = (8 - (i + 1)) + 1 by omega]; rfl
        have lc : (s.get! i).toNat < 256 := (s.get! i).toNat_lt
        have sh : shlK .u32 (w : Int) 4 = (((w <<< 4) % 2 ^ 32 : Nat) : Int) := shl_nat w 4 (by decide)
        have wl : (w <<< 4) % 2 ^ 32 < 2 ^ 32 := Nat.mod_lt _ (by decide)
        generalize (s.get! i).toNat = c at *
        rw [hst2]
        unfold hexD at hst2 ⊢
        by_cases c1 : 48 ≤ c ∧ c ≤ 57
        · rw [if_pos c1] at hst2 ⊢
          simp only [] at hst2 ⊢
          have d1 : (48 : Int) ≤ c := by omega
          have d2 : (c : Int) ≤ 57 := by omega
          have wd : IntKind.u8.wrap ((c : Int) - 48) = ((c - 48 : Nat) : Int) := by rw [w8 (by omega) (by omega)]; omega
          have wd2 : IntKind.u32.wrap ((c - 48 : Nat) : Int) = ((c - 48 : Nat) : Int) := w32 (by omega) (by omega)
          have ho := or_nat ((w <<< 4) % 2 ^ 32) (c - 48) wl (by omega)
          have hol := or_lt ((w <<< 4) % 2 ^ 32) (c - 48) 32 wl (by omega)
          have nx := next.go (i + 1, ((w <<< 4) % 2 ^ 32) ||| (c - 48)) ⟨by simp only []; omega, hol, hst2⟩ (by simp only []; omega)
          rw [hst2] at nx
          simp only [] at nx
          replace nx := later nx
          clear next hst hst2 hw wl hol lc c1 hlt hi
          generalize ((w <<< 4) % 2 ^ 32) ||| (c - 48) = w2 at *
          generalize (w <<< 4) % 2 ^ 32 = w3 at *
          generalize c - 48 = dd at *
          (repeat' (first | refine wk ?_ | refine wk2 ?_ ?_ | with_reducible refine wkF fun _ _ _ => ?_ | with_reducible intro _ | exact ag | fail))
          exact ARun.weaken nx.go (leK (Sub.refl _))
        · rw [if_neg c1] at hst2 ⊢
          by_cases c2 : 97 ≤ c ∧ c ≤ 102
          · rw [if_pos c2] at hst2 ⊢
            simp only [] at hst2 ⊢
            have d0 : (48 : Int) ≤ c := by omega
            have d00 : decide ((c : Int) ≤ 57) = false := by simp; omega
            have d1 : (97 : Int) ≤ c := by omega
            have d2 : (c : Int) ≤ 102 := by omega
            have wd : IntKind.u8.wrap ((c : Int) - 97) = ((c - 97 : Nat) : Int) := by rw [w8 (by omega) (by omega)]; omega
            have wd1 : IntKind.u8.wrap (((c - 97 : Nat) : Int) + 10) = ((c - 97 + 10 : Nat) : Int) := by rw [w8 (by omega) (by omega)]; omega
            have wd2 : IntKind.u32.wrap ((c - 97 + 10 : Nat) : Int) = ((c - 97 + 10 : Nat) : Int) := w32 (by omega) (by omega)
            have ho := or_nat ((w <<< 4) % 2 ^ 32) (c - 97 + 10) wl (by omega)
            have hol := or_lt ((w <<< 4) % 2 ^ 32) (c - 97 + 10) 32 wl (by omega)
            have nx := next.go (i + 1, ((w <<< 4) % 2 ^ 32) ||| (c - 97 + 10)) ⟨by simp only []; omega, hol, hst2⟩ (by simp only []; omega)
            rw [hst2] at nx
            simp only [] at nx
            replace nx := later nx
            clear next hst hst2 hw wl hol lc c1 c2 hlt hi
            generalize ((w <<< 4) % 2 ^ 32) ||| (c - 97 + 10) = w2 at *
            generalize (w <<< 4) % 2 ^ 32 = w3 at *
            generalize c - 97 + 10 = dd at *
            generalize c - 97 = dd1 at *
            (repeat' (first | refine wk ?_ | refine wk2 ?_ ?_ | with_reducible refine wkF fun _ _ _ => ?_ | with_reducible intro _ | exact ag | fail))
            exact ARun.weaken nx.go (leK (Sub.refl _))
          · rw [if_neg c2] at hst2 ⊢
            simp only [] at hst2 ⊢
            have b1 : decide ((c : Int) ≤ 57) = (decide ((c : Int) ≤ 57)) := rfl
            clear next hst hst2 sh wl hw
            by_cases x1 : (48 : Int) ≤ c
            · have d00 : decide ((c : Int) ≤ 57) = false := by simp; omega
              by_cases x2 : (97 : Int) ≤ c
              · have d2 : decide ((c : Int) ≤ 102) = false := by simp; omega
                (repeat' (first | refine wk ?_ | refine wk2 ?_ ?_ | with_reducible refine wkF fun _ _ _ => ?_ | with_reducible intro _ | exact ag | fail))
                exact fin0
              · have d1 : decide ((97 : Int) ≤ c) = false := by simpa using x2
                (repeat' (first | refine wk ?_ | refine wk2 ?_ ?_ | with_reducible refine wkF fun _ _ _ => ?_ | with_reducible intro _ | exact ag | fail))
                exact fin0
            · have d0 : decide ((48 : Int) ≤ c) = false := by simpa using x1
              have d1 : decide ((97 : Int) ≤ c) = false := by simp; omega
              (repeat' (first | refine wk ?_ | refine wk2 ?_ ?_ | with_reducible refine wkF fun _ _ _ => ?_ | with_reducible intro _ | exact ag | fail))
              exact fin0
      · obtain rfl : i = 8 := by omega
        have hst3 : wparF s 8 0 0 = some w := hst
        rw [hst3]
        clear next hst hst3
        (repeat' (first | refine wk ?_ | refine wk2 ?_ ?_ | with_reducible refine wkF fun _ _ _ => ?_ | with_reducible intro _ | exact ag | fail))
        exact fin0
    · exact leK (Sub.refl _)
  · have q0 : ((s.size : Int) != 8) = true := by simp; omega
    have hv : wpar s = (0, 4) := if_neg hz
    rw [hv]
    (repeat' (first | refine wk ?_ | refine wk2 ?_ ?_ | with_reducible refine wkF fun _ _ _ => ?_ | with_reducible intro _ | exact ag | fail))
    exact fin0
/-- What a line's word is. -/
def wordP : ByteArray := ⟨#[119, 111, 114, 100, 32]⟩
def restP (s : ByteArray) : ByteArray := ⟨(Lib.trimPrefix s.data.toList wordP.data.toList).toArray⟩
def hasP (s : ByteArray) : Bool := Lib.hasPrefix s.data.toList wordP.data.toList
def insW (p : Ins × Int) : Nat × Int := if p.2 = 0 then (p.1.word, p.1.chk) else (0, p.2)
def oneP (s : ByteArray) : Nat × Int := if hasP s = true ∧ (wpar (restP s)).2 = 0 then ((wpar (restP s)).1, 0) else insW (parP s)
theorem parP_ok (s : ByteArray) : (parP s).1.ok := by
  have hz : Ins.zero.ok := ⟨by decide, by decide, by decide, by decide, (show (-2147483648 : Int) ≤ 0 by decide), (show (0 : Int) < 2147483648 by decide)⟩
  unfold parP
  split
  · exact hz
  · rename_i o ho
    unfold parF
    split
    · refine fill_ok ?_ _
      unfold opAt at ho
      rw [List.findIdx?_eq_some_iff_getElem] at ho
      obtain ⟨h, _⟩ := ho
      rw [opN_len] at h; omega
    · exact hz
theorem one_c {G : Heap} (g : GA G) (hN : NamesAt G) (hs : Sub G H) {s : ByteArray} (hz : s.size < 4294967281) : AC Tryz.prog 37 [.s (.string s)] H (fun r H' => r = .tup [.s (.int .u32 ((oneP s).1 : Nat)), .s (.int .i64 (oneP s).2)] ∧ H' = H) := by
  have CP := fun H => cutPre_c (H := H) s wordP
  have WP := fun H => wparse_c (restP s) H
  have PP := fun (K : Heap) (hK : Sub H K) => parseP_c g hN (hs.trans hK) (s := s) hz
  have EN := fun (K : Heap) => encode_c (H := K) (parP_ok s)
  unfold oneP
  have e1 : (⟨(Lib.trimPrefix s.data.toList wordP.data.toList).toArray⟩ : ByteArray) = restP s := rfl
  have e2 : Lib.hasPrefix s.data.toList wordP.data.toList = hasP s := rfl
  rw [e1, e2] at CP
  clear e1 e2 g hN hs hz
  replace PP := later PP
  have tail : ∀ (b : Bool) (e : Int), True := fun _ _ => trivial
  refine AC.body Tryz.func37 rfl rfl (n := 36) (res := [.tmp 2, .tmp 3]) rfl rfl (by simp) ?_
  simp only [ent]
  unfold wordP at CP
  generalize hasP s = hp at *
  generalize restP s = rs at *
  generalize wpar rs = wp at *
  obtain ⟨w0, w1⟩ := wp
  cases hp with
  | true =>
    by_cases hw : w1 = 0
    · subst hw
      rw [if_pos ⟨rfl, rfl⟩]
      clear PP EN
      (repeat' (first | refine wk ?_ | refine wk2 ?_ ?_ | with_reducible refine wkF fun _ _ _ => ?_ | with_reducible intro _ | refine Calling.eq (CP _) ?_ | refine Calling.eq (WP _) ?_ | exact ag | fail))
      exact fin0
    · rw [if_neg (fun h => hw h.2)]
      have hw2 : (w1 == 0) = false := by simpa using hw
      unfold insW
      by_cases hp : (parP s).2 = 0
      · rw [if_pos hp]
        rw [hp] at PP
        generalize (parP s).1.word = ww at *
        generalize (parP s).1.chk = cc at *
        generalize (parP s).1 = f at *
        simp only [Ins.enc_def] at PP EN
        clear hp hw
        (repeat' (first | refine wk ?_ | refine wk2 ?_ ?_ | with_reducible refine wkF fun _ _ _ => ?_ | with_reducible intro _ | refine Calling.eq (CP _) ?_ | refine Calling.eq (WP _) ?_ | refine Calling.eq (PP.go _ (by exact sb)) ?_ | refine Calling.eq (EN _) ?_ | exact ag | fail))
        exact fin0
      · rw [if_neg hp]
        have hp2 : ((parP s).2 != 0) = true := by simpa using hp
        clear EN hp hw
        generalize (parP s).2 = pe at *
        generalize (parP s).1 = f at *
        simp only [Ins.enc_def] at PP
        (repeat' (first | refine wk ?_ | refine wk2 ?_ ?_ | with_reducible refine wkF fun _ _ _ => ?_ | with_reducible intro _ | refine Calling.eq (CP _) ?_ | refine Calling.eq (WP _) ?_ | refine Calling.eq (PP.go _ (by exact sb)) ?_ | exact ag | fail))
        exact fin0
  | false =>
    rw [if_neg (fun h => by cases h.1)]
    clear WP
    unfold insW
    by_cases hp : (parP s).2 = 0
    · rw [if_pos hp]
      rw [hp] at PP
      generalize (parP s).1.word = ww at *
      generalize (parP s).1.chk = cc at *
      generalize (parP s).1 = f at *
      simp only [Ins.enc_def] at PP EN
      clear hp
      (repeat' (first | refine wk ?_ | refine wk2 ?_ ?_ | with_reducible refine wkF fun _ _ _ => ?_ | with_reducible intro _ | refine Calling.eq (CP _) ?_ | refine Calling.eq (PP.go _ (by exact sb)) ?_ | refine Calling.eq (EN _) ?_ | exact ag | fail))
      exact fin0
    · rw [if_neg hp]
      have hp2 : ((parP s).2 != 0) = true := by simpa using hp
      clear EN hp
      generalize (parP s).2 = pe at *
      generalize (parP s).1 = f at *
      simp only [Ins.enc_def] at PP
      (repeat' (first | refine wk ?_ | refine wk2 ?_ ?_ | with_reducible refine wkF fun _ _ _ => ?_ | with_reducible intro _ | refine Calling.eq (CP _) ?_ | refine Calling.eq (PP.go _ (by exact sb)) ?_ | exact ag | fail))
      exact fin0
end Go.Abs
