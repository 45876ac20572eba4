import Derived.Test.YtoeplpkmjfecgaaGreatDoorAb2
/- Operations that only read: what they make (valA), and that they do. -/
namespace Go.Abs
set_option linter.unusedSimpArgs false
set_option linter.unusedVariables false
set_option linter.unusedVariables false

def szP (P : Program) (T : TypeId) : Option (Bool × Nat) :=
  match P.info? T, P.underlying T with
  | some i, some (.struct _) => some (true, i.size)
  | some i, some (.array _ _) => some (true, i.size)
  | some i, some _ => some (false, i.size)
  | _, _ => none
def fldP (P : Program) (T : TypeId) (f : Nat) : Option (Nat × Bool × Nat) :=
  match P.underlying T with
  | some (.struct fs) => match fs[f]? with
    | some fd => match szP P fd.type with
      | some (g, n) => if n = 0 then none else some (fd.offset, g, n)
      | none => none
    | none => none
  | _ => none
/-- Slices: cells of an element. -/
def elP (P : Program) (T : TypeId) : Option Nat :=
  match P.underlying T with
  | some (.slice e) => (szP P e).map (·.2)
  | _ => none
def arP (P : Program) (T : TypeId) : Option (Nat × Bool × Nat) :=
  match P.underlying T with
  | some (.array n e) => (szP P e).map fun (g, s) => (n, g, s)
  | _ => none
def isStr (P : Program) (T : TypeId) : Bool := match P.underlying T with | some .string => true | _ => false
def isBoolT (P : Program) (T : TypeId) : Bool := match P.underlying T with | some .bool => true | _ => false
def isPtrT (P : Program) (T : TypeId) : Bool := match P.underlying T with | some (.pointer _) => true | _ => false
def isIfcT (P : Program) (T : TypeId) : Bool := match P.underlying T with | some (.interface _) => true | _ => false
def intT (P : Program) (T : TypeId) : Option IntKind := match P.underlying T with | some (.int k) => some k | _ => none

section runs
variable {P : Program} {w : World}
theorem run_bind {α β : Type} (x : Sem α) (f : α → Sem β) : (x >>= f).run P w = match x.run P w with | .ok a w' => (f a).run P w' | .halt h w' => .halt h w' := by
  show (Sem.bind x f).run P w = _
  induction x generalizing w with
  | pure a => rfl
  | load m a k ih =>
    simp only [Sem.bind, Sem.run]
    split
    · exact ih _
    · split
      · exact ih _
      · rfl
  | store m a v k ih =>
    cases v <;> simp only [Sem.bind, Sem.run] <;> first | rfl | (
      split
      · split
        · rfl
        · exact ih
      · split
        · exact ih
        · rfl)
  | new o k ih => exact ih _
  | shape r k ih => exact ih _
  | freeze a n k ih => exact ih
  | frozen a k ih => exact ih _
  | getObj r k ih =>
    simp only [Sem.bind, Sem.run]
    split
    · rfl
    · exact ih _
    · rfl
  | setObj r o k ih =>
    simp only [Sem.bind, Sem.run]
    split
    · rfl
    · exact ih
    · rfl
  | choose q k ih =>
    simp only [Sem.bind, Sem.run]
    split
    · exact ih _
    · exact ih _
  | sys c k ih => exact ih _
  | program k ih => exact ih _
  | mark m k ih => exact ih
  | halt h => rfl
theorem run_pure {α : Type} (x : α) : (pure x : Sem α).run P w = .ok x w := rfl
theorem run_ok {α β : Type} {x : Sem α} {a : α} {w' : World} {f : α → Sem β} (h : x.run P w = .ok a w') : (x >>= f).run P w = (f a).run P w' := by rw [run_bind, h]
theorem run_info {T : TypeId} {i : TypeInfo} (h : P.info? T = some i) : (typeInfo T).run P w = .ok i w := by
  show (match P.info? T with | some i => pure i | none => stuck "no such type" : Sem TypeInfo).run P w = _
  rw [h]; rfl
theorem run_under {T : TypeId} {d : TypeDesc} (h : P.underlying T = some d) : (underlying T).run P w = .ok d w := by
  show (match P.underlying T with | some i => pure i | none => stuck "no such type" : Sem TypeDesc).run P w = _
  rw [h]; rfl
theorem run_size {T : TypeId} {g : Bool} {n : Nat} (h : szP P T = some (g, n)) : (sizeOf T).run P w = .ok n w := by
  unfold szP at h
  unfold sizeOf
  cases e : P.info? T with
  | none => rw [e] at h; cases h
  | some i =>
    rw [run_ok (run_info e)]
    rw [e] at h
    have : i.size = n := by split at h <;> simp_all
    rw [this]; rfl
theorem run_isAgg {T : TypeId} {g : Bool} {n : Nat} (h : szP P T = some (g, n)) : (isAgg T).run P w = .ok g w := by
  unfold szP at h
  unfold isAgg
  cases e : P.underlying T with
  | none => rw [e] at h; split at h <;> simp_all
  | some d =>
    rw [run_ok (run_under e)]
    rw [e] at h
    split at h
    · simp_all
    · simp_all
    · rename_i i d' hns hna hi hd
      injection hd with hd; subst hd
      simp at h; obtain ⟨rfl, _⟩ := h
      cases d <;> first | rfl | exact absurd rfl (hns _) | exact absurd rfl (hna _ _)
    · simp_all
theorem run_load {b off : Nat} {v : Value} (h : w.cell? ⟨b, off, none⟩ = some v) : (Go.load ⟨b, off, none⟩).run P w = .ok v w := by
  simp only [Go.load, Sem.run, h]
theorem addr_add (b off n : Nat) : (⟨b, off, none⟩ : Addr).add n = ⟨b, off + n, none⟩ := by
  unfold Addr.add; split
  · next h => subst h; rfl
  · rfl
theorem loadCellsFrom_run {b off : Nat} : ∀ (n i : Nat) (acc : Array Value) (xs : List Value), xs.length = n → (∀ j (h : j < xs.length), w.cell? ⟨b, off + i + j, none⟩ = some xs[j]) →
    (loadCellsFrom ⟨b, off, none⟩ i n acc).run P w = .ok (acc ++ xs.toArray) w
  | 0, i, acc, xs, hl, h => by
    have : xs = [] := List.eq_nil_of_length_eq_zero hl
    subst this
    simp only [loadCellsFrom, Array.append_empty]; exact run_pure acc
  | n + 1, i, acc, xs, hl, h => by
    cases xs with
    | nil => simp at hl
    | cons x xs =>
      simp only [loadCellsFrom, addr_add]
      have h0 := h 0 (by simp)
      simp only [Nat.add_zero, List.getElem_cons_zero] at h0
      rw [run_ok (run_load h0)]
      rw [loadCellsFrom_run n (i + 1) (acc.push x) xs (by simpa using hl) (fun j hj => by
        have := h (j + 1) (by simpa using hj)
        simp only [List.getElem_cons_succ] at this
        rw [← this]; congr 2; omega)]
      simp
theorem loadCells_run {b off : Nat} {xs : List Value} (h : ∀ j (h : j < xs.length), w.cell? ⟨b, off + j, none⟩ = some xs[j]) : (loadCells ⟨b, off, none⟩ xs.length).run P w = .ok xs.toArray w := by
  unfold loadCells
  rw [loadCellsFrom_run xs.length 0 #[] xs rfl (by simpa using h)]
  simp
end runs

section cells
variable {P : Program} {w : World} {F : Nat → Prop}
theorem RepL.length {w : World} {F : Nat → Prop} : ∀ {ts : List TV} {xs : List Value}, RepL w F ts xs → ts.length = xs.length
  | [], xs, h => by simp only [RepL] at h; subst h; rfl
  | t :: ts, xs, h => by simp only [RepL] at h; obtain ⟨y, ys, rfl, h1, h2⟩ := h; simp [RepL.length h2]
theorem RepL.get {w : World} {F : Nat → Prop} : ∀ {ts : List TV} {xs : List Value}, RepL w F ts xs → ∀ {i : Nat} {t : TV}, ts[i]? = some t → ∃ x, xs[i]? = some x ∧ Rep w F t x
  | [], xs, h, i, t, hi => by simp at hi
  | u :: ts, xs, h, i, t, hi => by
    simp only [RepL] at h; obtain ⟨y, ys, rfl, h1, h2⟩ := h
    cases i with
    | zero => simp at hi; subst hi; exact ⟨y, rfl, h1⟩
    | succ i => simp at hi; simpa using RepL.get h2 hi
theorem RepL.take {w : World} {F : Nat → Prop} : ∀ {ts : List TV} {xs : List Value} (n : Nat), RepL w F ts xs → RepL w F (ts.take n) (xs.take n)
  | [], xs, n, h => by simp only [RepL] at h; subst h; simp only [List.take_nil, RepL]
  | t :: ts, xs, 0, h => by simp only [List.take_zero, RepL]
  | t :: ts, xs, n + 1, h => by
    simp only [RepL] at h; obtain ⟨y, ys, rfl, h1, h2⟩ := h
    simp only [List.take_succ_cons, RepL]; exact ⟨_, _, rfl, h1, RepL.take n h2⟩
theorem RepL.drop {w : World} {F : Nat → Prop} : ∀ {ts : List TV} {xs : List Value} (n : Nat), RepL w F ts xs → RepL w F (ts.drop n) (xs.drop n)
  | [], xs, n, h => by simp only [RepL] at h; subst h; simp only [List.drop_nil, RepL]
  | t :: ts, xs, 0, h => by simpa only [List.drop_zero] using h
  | t :: ts, xs, n + 1, h => by
    simp only [RepL] at h; obtain ⟨y, ys, rfl, h1, h2⟩ := h
    simpa only [List.drop_succ_cons] using RepL.drop n h2
theorem RepL.append {w : World} {F : Nat → Prop} : ∀ {ts us : List TV} {xs ys : List Value}, RepL w F ts xs → RepL w F us ys → RepL w F (ts ++ us) (xs ++ ys)
  | [], us, xs, ys, h, g => by simp only [RepL] at h; subst h; simpa using g
  | t :: ts, us, xs, ys, h, g => by
    simp only [RepL] at h; obtain ⟨y, zs, rfl, h1, h2⟩ := h
    simp only [List.cons_append, RepL]; exact ⟨_, _, rfl, h1, RepL.append h2 g⟩
theorem RepL.set {w : World} {F : Nat → Prop} : ∀ {ts : List TV} {xs : List Value} {t : TV} {x : Value} (i : Nat), RepL w F ts xs → Rep w F t x → RepL w F (ts.set i t) (xs.set i x)
  | [], xs, t, x, i, h, g => by simp only [RepL] at h; subst h; simp only [List.set_nil, RepL]
  | u :: ts, xs, t, x, 0, h, g => by
    simp only [RepL] at h; obtain ⟨y, ys, rfl, h1, h2⟩ := h
    simp only [List.set_cons_zero, RepL]; exact ⟨_, _, rfl, g, h2⟩
  | u :: ts, xs, t, x, i + 1, h, g => by
    simp only [RepL] at h; obtain ⟨y, ys, rfl, h1, h2⟩ := h
    simp only [List.set_cons_succ, RepL]; exact ⟨_, _, rfl, h1, RepL.set i h2 g⟩
theorem RepC.cells {b : Nat} : ∀ {ts : List TV} {off : Nat}, RepC w F b off ts → ∃ xs : List Value, RepL w F ts xs ∧ xs.length = ts.length ∧ ∀ j (h : j < xs.length), w.cell? ⟨b, off + j, none⟩ = some xs[j]
  | [], off, h => ⟨[], by simp only [RepL], rfl, fun j h => by simp at h⟩
  | t :: ts, off, h => by
    simp only [RepC] at h
    obtain ⟨⟨v, h0, h1⟩, h2⟩ := h
    obtain ⟨xs, g1, g2, g3⟩ := RepC.cells h2
    refine ⟨v :: xs, by simp only [RepL]; exact ⟨_, _, rfl, h1, g1⟩, by simp [g2], fun j hj => ?_⟩
    cases j with
    | zero => simpa using h0
    | succ j =>
      have := g3 j (by simpa using hj)
      simp only [List.getElem_cons_succ]; rw [← this]; congr 2; omega
theorem RepC.take {b : Nat} : ∀ {ts : List TV} {off : Nat} (n : Nat), RepC w F b off ts → RepC w F b off (ts.take n)
  | [], off, n, h => by simp only [List.take_nil, RepC]
  | t :: ts, off, 0, h => by simp only [List.take_zero, RepC]
  | t :: ts, off, n + 1, h => by
    simp only [RepC, List.take_succ_cons] at h ⊢; exact ⟨h.1, RepC.take n h.2⟩
theorem RepC.drop {b : Nat} : ∀ {ts : List TV} {off : Nat} (n : Nat), RepC w F b off ts → RepC w F b (off + n) (ts.drop n)
  | [], off, n, h => by simp only [List.drop_nil, RepC]
  | t :: ts, off, 0, h => by simpa only [List.drop_zero, Nat.add_zero] using h
  | t :: ts, off, n + 1, h => by
    simp only [RepC, List.drop_succ_cons] at h ⊢
    have := RepC.drop n h.2
    rwa [show off + (n + 1) = off + 1 + n by omega]
/-- The cells of a block that is held. -/
theorem RootRel.cell {b : Nat} {cs : List TV} (h : RootRel w F b (.cells cs)) : ∃ xs : List Value, RepL w F cs xs ∧ xs.length = cs.length ∧ ∀ j (h : j < xs.length), w.cell? ⟨b, j, none⟩ = some xs[j] := by
  obtain ⟨c, elem, fz, hc, hz, hl, hr⟩ := h
  refine ⟨_, hr, by simp [hl], fun j hj => ?_⟩
  simp at hj
  simp only [World.cell?, hc, Option.isSome_none, Bool.false_eq_true, if_false]
  rw [Array.getElem?_eq_getElem (by omega)]
  simp
end cells

/-- What a walk sees where it reads n cells. -/
def rdA (H : Heap) : TV → Option (List TV)
  | .s (.pointer (some ⟨b, off, none⟩)) => match H b with
    | some (.cells cs) => some (cs.drop off)
    | some (.exact (.cells c _ _)) => some ((c.toList.map .s).drop off)
    | _ => none
  | .fp cs => some cs
  | _ => none
def loadA (P : Program) (H : Heap) (T : TypeId) (p : TV) : Option TV :=
  match szP P T, rdA H p with
  | some (true, n), some cs => if n ≤ cs.length then some (.agg (cs.take n)) else none
  | some (false, _), some (c :: _) => some c
  | _, _ => none

theorem rdA_cells {H : Heap} {w : World} (hh : HRel H w) {p : TV} {x : Value} (hp : Rep w (Fr H w) p x) {cs : List TV} (h : rdA H p = some cs) :
    ∃ b off xs, x = .pointer (some ⟨b, off, none⟩) ∧ RepL w (Fr H w) cs xs ∧ xs.length = cs.length ∧ ∀ j (h : j < xs.length), w.cell? ⟨b, off + j, none⟩ = some xs[j] := by
  unfold rdA at h
  split at h
  · rename_i b off
    simp only [Rep] at hp; subst hp
    split at h
    · rename_i ds hb
      obtain ⟨xs, g1, g2, g3⟩ := (hh b _ hb).cell
      simp at h; subst h
      refine ⟨b, off, xs.drop off, rfl, g1.drop off, by simp [g2], fun j hj => ?_⟩
      simp only [List.getElem_drop]
      exact g3 _ (by simp at hj; omega)
    · rename_i c elem fz hb
      have hcell : w.heap[b]? = some (.cells c elem fz) := hh b _ hb
      simp at h; subst h
      refine ⟨b, off, c.toList.drop off, rfl, ?_, by simp, fun j hj => ?_⟩
      · rw [← List.map_drop]
        generalize c.toList.drop off = l
        induction l with
        | nil => simp only [List.map_nil, RepL]
        | cons v l ih => simp only [List.map_cons, RepL]; exact ⟨v, l, rfl, by simp only [Rep], ih⟩
      · have hj' : off + j < c.size := by simp at hj; omega
        simp only [World.cell?, hcell, Option.isSome_none, Bool.false_eq_true, if_false, List.getElem_drop, Array.getElem_toList]
        rw [Array.getElem?_eq_getElem hj']
    · cases h
  · simp only [Rep] at hp
    obtain ⟨b, off, rfl, hF, hc⟩ := hp
    simp at h; subst h
    obtain ⟨xs, g1, g2, g3⟩ := hc.cells
    exact ⟨b, off, xs, rfl, g1, g2, g3⟩
  · cases h
theorem loadA_run {P : Program} {H : Heap} {w : World} (hh : HRel H w) {T : TypeId} {p v : TV} {x : Value} (hp : Rep w (Fr H w) p x) (h : loadA P H T p = some v) :
    ∃ y, (Instr.loadAt T x).run P w = .ok y w ∧ Rep w (Fr H w) v y := by
  unfold loadA at h
  split at h
  · rename_i n cs hs hr
    obtain ⟨b, off, xs, rfl, g1, g2, g3⟩ := rdA_cells hh hp hr
    split at h
    · rename_i hn
      simp at h; subst h
      refine ⟨.agg (xs.take n).toArray, ?_, ?_⟩
      · unfold Instr.loadAt
        rw [run_ok (a := (⟨b, off, none⟩ : Addr)) (w' := w) rfl]
        unfold loadVar
        rw [run_ok (run_isAgg hs)]
        simp only [if_true]
        rw [run_ok (run_size hs)]
        have hl : (xs.take n).length = n := by simp; omega
        have := loadCells_run (P := P) (w := w) (b := b) (off := off) (xs := xs.take n) (fun j hj => by
          simp only [List.getElem_take]; exact g3 j (by simp at hj; omega))
        rw [hl] at this
        rw [run_ok this]; rfl
      · simp only [Rep]; exact ⟨_, rfl, by simpa using g1.take n⟩
    · cases h
  · rename_i c cs hs hr
    obtain ⟨b, off, xs, rfl, g1, g2, g3⟩ := rdA_cells hh hp hr
    simp at h; subst h
    simp only [RepL] at g1
    obtain ⟨y, ys, rfl, r1, r2⟩ := g1
    refine ⟨y, ?_, r1⟩
    unfold Instr.loadAt
    rw [run_ok (a := (⟨b, off, none⟩ : Addr)) (w' := w) rfl]
    unfold loadVar
    rw [run_ok (run_isAgg hs)]
    simp only [Bool.false_eq_true, if_false]
    have := g3 0 (by simp)
    exact run_load (by simpa using this)
  · cases h
end Go.Abs
