import Derived.Test.YtoeplpkmjfecgaaGreatDoorV
import Derived.WalkKit
import Derived.ProofKit
import Derived.OpenShut
import Derived.Carry
import Derived.Deep.Slices
/- What an argument's reading tells of its cells: structs, rows of elements. -/
namespace Go.Proofs.YtoeplpkmjfecgaaGreatDoor.Op
open Go.ChangeShapes Go.WideShapes Go.ChangeAt Go.RowKit Go.Lib Go.Proofs.YtoeplpkmjfecgaaGreatDoorW.PrintWords Go.Proofs.YtoeplpkmjfecgaaGreatDoorW.PrintMore
set_option linter.unusedVariables false
variable {H : Type} {enc : TypeId × Value → H} {P : Program} {w : World} {base : Nat} {sp : Nat → Bool} {held : Bool} {fuel : Nat} {cs : List Value} {x : DataW H × List MemPlace}

/-- A field of a struct that is read is read. -/
theorem field {fs : Array Field} {t : TypeId} (ht : P.underlying t = some (.struct fs)) (h : DataW.trod enc P w base sp held fuel t cs = some x) (i : Nat) {f : Field} (hf : fs[i]? = some f) {m : Nat} (hm : P.cellsOf f.type = m) :
    ∃ n y, DataW.trod enc P w base sp held n f.type ((cs.drop f.offset).take m) = some y := by
  obtain ⟨xs, n, _, _, _, hl, hx⟩ := DataW.trod_struct ht h
  have hi : i < fs.size := (Array.getElem?_eq_some_iff.1 hf).1
  have := hx i f hf
  rw [hm, List.getElem?_eq_getElem (by omega)] at this
  exact ⟨n, _, this⟩
theorem len {fs : Array Field} {t : TypeId} (ht : P.underlying t = some (.struct fs)) (h : DataW.trod enc P w base sp held fuel t cs = some x) : cs.length = P.cellsOf t := by
  obtain ⟨xs, n, _, _, hc, _⟩ := DataW.trod_struct ht h
  exact hc
theorem int1 {t : TypeId} {k : IntKind} (ht : P.underlying t = some (.int k)) {c : Value} (h : DataW.trod enc P w base sp held fuel t [c] = some x) : ∃ n, c = .int k n ∧ (Lit.int k n).wf = true := by
  obtain ⟨n, e, _, hw⟩ := DataW.trod_int ht h
  exact ⟨n, (List.cons.inj e).1, hw⟩
theorem bool1 {t : TypeId} (ht : P.underlying t = some .bool) {c : Value} (h : DataW.trod enc P w base sp held fuel t [c] = some x) : ∃ b, c = .bool b := by
  obtain ⟨n, e, _⟩ := DataW.trod_bool ht h
  exact ⟨n, (List.cons.inj e).1⟩
theorem str1 {t : TypeId} (ht : P.underlying t = some .string) {c : Value} (h : DataW.trod enc P w base sp held fuel t [c] = some x) : ∃ s : ByteArray, c = .string s ∧ s.size ≤ 9223372036854775807 := by
  obtain ⟨s, e, _, hs⟩ := DataW.trod_string ht h
  exact ⟨s, (List.cons.inj e).1, hs⟩
/-- A row of elements that is read, each as 'hel' says. -/
theorem row {α : Type} (d : Kd α) (good : α → Prop) {t e : TypeId} (ht : P.underlying t = some (.slice e)) (hsz : P.cellsOf e = d.sz)
    (hel : ∀ n cs y, DataW.trod enc P w base sp held n e cs = some y → ∃ a, d.K w a cs ∧ good a) {c : Value} (h : DataW.trod enc P w base sp held fuel t [c] = some x) :
    ∃ (A : Option Addr) (l : List α) (cap : Nat), c = .slice A l.length cap ∧ Kd.C d w A l.length l ∧ l.length ≤ cap ∧ ∀ y ∈ l, good y := by
  rcases Go.Deep.open_slice ht h with ⟨e1, _⟩ | ⟨a, ln, cap, m, n, D, Pl, e1, hb, hl, hm, hmm, hxe, hx⟩
  · exact ⟨none, [], 0, (List.cons.inj e1).1, ⟨rfl, by simp, fun h0 => absurd h0 (by simp)⟩, Nat.le_refl _, fun y hy => by cases hy⟩
  · have hle : ln ≤ m := by rw [hmm]; split <;> omega
    have h1 : ∀ i, i < ln → ∃ y : α, good y ∧ ∃ cs' : List Value, d.K w y cs' ∧ ∀ j u, cs'[j]? = some u → w.cell? (a.add (i * d.sz + j)) = some u := fun i hi => by
      obtain ⟨cs', hc, ht'⟩ := hx i (by omega)
      obtain ⟨y, hK, hg⟩ := hel n cs' _ ht'
      obtain ⟨_, hlen, hcell⟩ := World.cells?_some hc
      refine ⟨y, hg, cs', hK, fun j u hu => ?_⟩
      have hj : j < P.cellsOf e := by rw [← hlen]; exact (List.getElem?_eq_some_iff.1 hu).1
      rw [← hsz, ← Addr.add_add, hcell j hj]
      exact hu
    clear hx hxe
    have h2 : ∃ l : List α, l.length = ln ∧ ∀ i y, l[i]? = some y → good y ∧ ∃ cs' : List Value, d.K w y cs' ∧ ∀ j u, cs'[j]? = some u → w.cell? (a.add (i * d.sz + j)) = some u := by
      clear hl hle hm hmm h e1
      induction ln with
      | zero => exact ⟨[], rfl, fun i y hi => by simp at hi⟩
      | succ q ih =>
        obtain ⟨l, hl, hall⟩ := ih (fun i hi => h1 i (by omega))
        obtain ⟨y, hy⟩ := h1 q (by omega)
        refine ⟨l ++ [y], by simp [hl], fun i z hi => ?_⟩
        rcases Nat.lt_or_ge i l.length with hlt | hge
        · rw [List.getElem?_append_left hlt] at hi
          exact hall i z hi
        · have hi2 : i = l.length := by
            have := (List.getElem?_eq_some_iff.1 hi).1
            simp at this; omega
          subst hi2
          simp at hi
          subst hi
          rw [hl]
          exact hy
    obtain ⟨l, hlen, hall⟩ := h2
    refine ⟨some a, l, cap, by rw [hlen]; exact (List.cons.inj e1).1, ⟨rfl, ?_, fun _ => ⟨a, rfl, fun j y hj => ?_⟩⟩, by omega, fun y hy => ?_⟩
    · have : cap ≤ 9223372036854775807 := hm
      omega
    · obtain ⟨_, cs', hK, hc⟩ := hall j y hj
      exact ⟨cs', d.K_len hK, hK, hc⟩
    · obtain ⟨i, hi⟩ := List.getElem?_of_mem hy
      exact (hall i y hi).1
/-- A row of elements that is read, each as 'hel' says: what is read is of bulk at most M. -/
theorem rowB {B : DataW H → Nat} {BA : List (DataW H) → Nat} (hA : ∀ d l, d ∈ l → B d ≤ BA l) (hS : ∀ es sp, B (.slice es sp) = BA es + BA sp + 1) (M : Nat) {α : Type} (d : Kd α) (good : α → Prop) {t e : TypeId} (ht : P.underlying t = some (.slice e)) (hsz : P.cellsOf e = d.sz)
    (hel : ∀ n cs y, DataW.trod enc P w base sp held n e cs = some y → B y.1 ≤ M → ∃ a, d.K w a cs ∧ good a) {c : Value} (h : DataW.trod enc P w base sp held fuel t [c] = some x) (hM : B x.1 ≤ M) :
    ∃ (A : Option Addr) (l : List α) (cap : Nat), c = .slice A l.length cap ∧ Kd.C d w A l.length l ∧ l.length ≤ cap ∧ ∀ y ∈ l, good y := by
  rcases Go.Deep.open_slice ht h with ⟨e1, _⟩ | ⟨a, ln, cap, m, n, D, Pl, e1, hb, hl, hm, hmm, hxe, hx⟩
  · exact ⟨none, [], 0, (List.cons.inj e1).1, ⟨rfl, by simp, fun h0 => absurd h0 (by simp)⟩, Nat.le_refl _, fun y hy => by cases hy⟩
  · have hle : ln ≤ m := by rw [hmm]; split <;> omega
    have h1 : ∀ i, i < ln → ∃ y : α, good y ∧ ∃ cs' : List Value, d.K w y cs' ∧ ∀ j u, cs'[j]? = some u → w.cell? (a.add (i * d.sz + j)) = some u := fun i hi => by
      obtain ⟨cs', hc, ht'⟩ := hx i (by omega)
      have hbd : B (D i) ≤ M := by
        have h1 := hA (D i) ((List.range ln).map D) (List.mem_map.2 ⟨i, List.mem_range.2 hi, rfl⟩)
        rw [hxe, hS] at hM
        omega
      obtain ⟨y, hK, hg⟩ := hel n cs' _ ht' hbd
      obtain ⟨_, hlen, hcell⟩ := World.cells?_some hc
      refine ⟨y, hg, cs', hK, fun j u hu => ?_⟩
      have hj : j < P.cellsOf e := by rw [← hlen]; exact (List.getElem?_eq_some_iff.1 hu).1
      rw [← hsz, ← Addr.add_add, hcell j hj]
      exact hu
    clear hx hxe
    have h2 : ∃ l : List α, l.length = ln ∧ ∀ i y, l[i]? = some y → good y ∧ ∃ cs' : List Value, d.K w y cs' ∧ ∀ j u, cs'[j]? = some u → w.cell? (a.add (i * d.sz + j)) = some u := by
      clear hl hle hm hmm h e1
      induction ln with
      | zero => exact ⟨[], rfl, fun i y hi => by simp at hi⟩
      | succ q ih =>
        obtain ⟨l, hl, hall⟩ := ih (fun i hi => h1 i (by omega))
        obtain ⟨y, hy⟩ := h1 q (by omega)
        refine ⟨l ++ [y], by simp [hl], fun i z hi => ?_⟩
        rcases Nat.lt_or_ge i l.length with hlt | hge
        · rw [List.getElem?_append_left hlt] at hi
          exact hall i z hi
        · have hi2 : i = l.length := by
            have := (List.getElem?_eq_some_iff.1 hi).1
            simp at this; omega
          subst hi2
          simp at hi
          subst hi
          rw [hl]
          exact hy
    obtain ⟨l, hlen, hall⟩ := h2
    refine ⟨some a, l, cap, by rw [hlen]; exact (List.cons.inj e1).1, ⟨rfl, ?_, fun _ => ⟨a, rfl, fun j y hj => ?_⟩⟩, by omega, fun y hy => ?_⟩
    · have : cap ≤ 9223372036854775807 := hm
      omega
    · obtain ⟨_, cs', hK, hc⟩ := hall j y hj
      exact ⟨cs', d.K_len hK, hK, hc⟩
    · obtain ⟨i, hi⟩ := List.getElem?_of_mem hy
      exact (hall i y hi).1
theorem fieldB {B : DataW H → Nat} {BA : List (DataW H) → Nat} (hA : ∀ d l, d ∈ l → B d ≤ BA l) (hG : ∀ ps, B (.agg ps) = BA ps + 1) {fs : Array Field} {t : TypeId} (ht : P.underlying t = some (.struct fs)) (h : DataW.trod enc P w base sp held fuel t cs = some x) (i : Nat) {f : Field} (hf : fs[i]? = some f) {m : Nat} (hm : P.cellsOf f.type = m) :
    ∃ n y, DataW.trod enc P w base sp held n f.type ((cs.drop f.offset).take m) = some y ∧ B y.1 ≤ B x.1 := by
  obtain ⟨xs, n, _, hxe, _, hl, hx⟩ := DataW.trod_struct ht h
  have hi : i < fs.size := (Array.getElem?_eq_some_iff.1 hf).1
  have := hx i f hf
  rw [hm, List.getElem?_eq_getElem (by omega)] at this
  refine ⟨n, _, this, ?_⟩
  rw [hxe, hG]
  have h2 := hA (xs[i]'(by omega)).1 (xs.map (·.1)) (List.mem_map.2 ⟨_, List.getElem_mem _, rfl⟩)
  omega
theorem strB {B : DataW H → Nat} (hL : ∀ bytes, B (.lit (.string bytes)) = bytes.length + 1) {t : TypeId} (ht : P.underlying t = some .string) {c : Value} (h : DataW.trod enc P w base sp held fuel t [c] = some x) : ∃ s : ByteArray, c = .string s ∧ s.size ≤ 9223372036854775807 ∧ s.size ≤ B x.1 := by
  obtain ⟨s, e, hx, hs⟩ := DataW.trod_string ht h
  refine ⟨s, (List.cons.inj e).1, hs, ?_⟩
  rw [hx, hL]
  have : s.size = s.data.toList.length := rfl
  omega
theorem elInt {e : TypeId} {k : IntKind} (he : P.underlying e = some (.int k)) (n : Nat) (cs : List Value) (y : DataW H × List MemPlace) (h : DataW.trod enc P w base sp held n e cs = some y) : ∃ a, (Kd.int k).K w a cs ∧ (Lit.int k a).wf = true := by
  obtain ⟨a, e1, _, hw⟩ := DataW.trod_int he h
  exact ⟨a, e1, hw⟩
theorem elStr {e : TypeId} (he : P.underlying e = some .string) (n : Nat) (cs : List Value) (y : DataW H × List MemPlace) (h : DataW.trod enc P w base sp held n e cs = some y) : ∃ a : ByteArray, Kd.string.K w a cs ∧ a.size ≤ 9223372036854775807 := by
  obtain ⟨a, e1, _, hw⟩ := DataW.trod_string he h
  exact ⟨a, e1, hw⟩
theorem r8 {n : Int} (h : (Lit.int .u8 n).wf = true) : 0 ≤ n ∧ n < 256 := by
  have e : IntKind.u8.min ≤ n ∧ n ≤ IntKind.u8.max := by simpa [Lit.wf] using h
  have e1 : IntKind.u8.min = 0 := by decide
  have e2 : IntKind.u8.max = 255 := by decide
  omega
theorem r16 {n : Int} (h : (Lit.int .u16 n).wf = true) : 0 ≤ n ∧ n < 65536 := by
  have e : IntKind.u16.min ≤ n ∧ n ≤ IntKind.u16.max := by simpa [Lit.wf] using h
  have e1 : IntKind.u16.min = 0 := by decide
  have e2 : IntKind.u16.max = 65535 := by decide
  omega
theorem r32 {n : Int} (h : (Lit.int .u32 n).wf = true) : 0 ≤ n ∧ n < 4294967296 := by
  have e : IntKind.u32.min ≤ n ∧ n ≤ IntKind.u32.max := by simpa [Lit.wf] using h
  have e1 : IntKind.u32.min = 0 := by decide
  have e2 : IntKind.u32.max = 4294967295 := by decide
  omega
theorem r64 {n : Int} (h : (Lit.int .i64 n).wf = true) : -9223372036854775808 ≤ n ∧ n < 9223372036854775808 := by
  have e : IntKind.i64.min ≤ n ∧ n ≤ IntKind.i64.max := by simpa [Lit.wf] using h
  have e1 : IntKind.i64.min = -9223372036854775808 := by decide
  have e2 : IntKind.i64.max = 9223372036854775807 := by decide
  omega
theorem ri32 {n : Int} (h : (Lit.int .i32 n).wf = true) : -2147483648 ≤ n ∧ n < 2147483648 := by
  have e : IntKind.i32.min ≤ n ∧ n ≤ IntKind.i32.max := by simpa [Lit.wf] using h
  have e1 : IntKind.i32.min = -2147483648 := by decide
  have e2 : IntKind.i32.max = 2147483647 := by decide
  omega
end Go.Proofs.YtoeplpkmjfecgaaGreatDoor.Op
