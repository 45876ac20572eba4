import Derived.Test.YtoeplpkmjfecgaaGreatDoorAb5
/- Regions: each operation in the text's order. -/
namespace Go.Abs
set_option linter.unusedSimpArgs false
set_option linter.unusedVariables false
set_option linter.unusedVariables false

def one1 : Value → Bool
  | .agg _ | .tuple _ => false
  | _ => true
def oneT : TV → Bool
  | .s v => one1 v
  | .any | .agg _ | .tup _ => false
  | _ => true
/-- A store: the memory behind it. -/
def wrA (H : Heap) (n : Nat) (p v : TV) : Option Heap :=
  match p, cellsT v with
  | .s (.pointer (some ⟨b, off, none⟩)), some vs => match H b with
    | some (.cells cs) => if vs.length = n ∧ off + n ≤ cs.length ∧ vs.all oneT = true then some (upd H b (.cells (cs.take off ++ vs ++ cs.drop (off + n)))) else none
    | _ => none
  | _, _ => none

section
variable {P : Program} {w : World} {H : Heap} {F : Nat → Prop}
theorem cells_rep {v : TV} {x : Value} {vs : List TV} (hx : Rep w F v x) (h : cellsT v = some vs) : RepL w F vs x.cells.toList := by
  unfold cellsT at h
  split at h
  · simp at h; subst h
    simp only [Rep] at hx; obtain ⟨xs, rfl, hx⟩ := hx; exact hx
  · cases h
  · cases h
  · cases h
  · cases h
  · rename_i h1 h2 h3 h4 h5
    simp at h; subst h
    have : x.cells = #[x] := by
      unfold Value.cells
      split
      · rename_i cs
        exfalso
        cases v with
        | s v => simp only [Rep] at hx; subst hx; exact h4 _ rfl
        | any => exact h2 rfl
        | agg cs => exact h1 _ rfl
        | tup l => exact h3 _ rfl
        | nils => simp only [Rep] at hx; obtain ⟨a, hx⟩ := hx; cases hx
        | vs k es => simp only [Rep] at hx; obtain ⟨a, n, c, hx, _⟩ := hx; cases hx
        | rs b o n k => simp only [Rep] at hx; obtain ⟨a, c, hx, _⟩ := hx; cases hx
        | fp cs => simp only [Rep] at hx; obtain ⟨a, c, hx, _⟩ := hx; cases hx
        | clo fn f c => simp only [Rep] at hx; obtain ⟨a, c, hx, _⟩ := hx; cases hx
      · rfl
    rw [this]
    simp only [RepL]; exact ⟨_, _, rfl, hx, rfl⟩
theorem cells_one {v : TV} {x : Value} {vs : List TV} (hx : Rep w F v x) (h : cellsT v = some vs) (hf : ∀ cs, v ≠ .agg cs) : vs = [v] := by
  unfold cellsT at h
  split at h <;> first | cases h | skip
  · exact absurd rfl (hf _)
  · rfl

/-- The world with a row of cells from some place on written. -/
def putCells (w : World) (b off : Nat) : List Value → World
  | [] => w
  | v :: vs => putCells (w.setCell ⟨b, off, none⟩ v) b (off + 1) vs
theorem heap_setCell {b off : Nat} {v : Value} {c : Array Value} {elem : TypeId} {fz : Nat × Nat} (h : w.heap[b]? = some (.cells c elem fz)) :
    (w.setCell ⟨b, off, none⟩ v).heap[b]? = some (.cells (c.setIfInBounds off v) elem fz) := by
  simp only [World.setCell, Array.getElem?_modify, h]; simp
theorem heap_setCell_ne {b b' off : Nat} {v : Value} (h : b' ≠ b) : (w.setCell ⟨b, off, none⟩ v).heap[b']? = w.heap[b']? := by
  simp only [World.setCell, Array.getElem?_modify]; rw [if_neg (fun e => h e.symm)]
theorem setMany (c : Array Value) : ∀ (xs : List Value) (off : Nat), off + xs.length ≤ c.size →
    (xs.zipIdx off |>.foldl (fun c p => c.setIfInBounds p.2 p.1) c).toList = c.toList.take off ++ xs ++ c.toList.drop (off + xs.length) := by
  intro xs
  induction xs generalizing c with
  | nil => intro off h; simp
  | cons x xs ih =>
    intro off h
    simp only [List.zipIdx_cons, List.foldl_cons]
    rw [ih _ _ (by simp at h ⊢; omega)]
    simp only [Array.toList_setIfInBounds]
    simp only [List.length_cons] at h ⊢
    have hlen : c.toList.length = c.size := by simp
    rw [List.set_eq_take_append_cons_drop, if_pos (by omega)]
    have ht : (c.toList.take off).length = off := by simp; omega
    have e1 : List.take (off + 1) (c.toList.take off ++ x :: c.toList.drop (off + 1)) = c.toList.take off ++ [x] := by
      rw [List.take_append, ht]; simp [List.take_take]
    have e2 : List.drop (off + 1 + xs.length) (c.toList.take off ++ x :: c.toList.drop (off + 1)) = c.toList.drop (off + (xs.length + 1)) := by
      rw [List.drop_append, ht, List.drop_of_length_le (by omega)]
      rw [show off + 1 + xs.length - off = xs.length + 1 by omega]
      simp [List.drop_drop]; congr 1; omega
    rw [e1, e2]; simp
theorem heap_putCells {b : Nat} {elem : TypeId} {fz : Nat × Nat} : ∀ (xs : List Value) (w : World) (c : Array Value) (off : Nat), w.heap[b]? = some (.cells c elem fz) →
    (putCells w b off xs).heap[b]? = some (.cells (xs.zipIdx off |>.foldl (fun c p => c.setIfInBounds p.2 p.1) c) elem fz)
  | [], w, c, off, h => h
  | x :: xs, w, c, off, h => by
    simp only [putCells, List.zipIdx_cons, List.foldl_cons]
    exact heap_putCells xs _ _ _ (heap_setCell h)
theorem heap_putCells_ne {b b' : Nat} (hb : b' ≠ b) : ∀ (xs : List Value) (w : World) (off : Nat), (putCells w b off xs).heap[b']? = w.heap[b']?
  | [], w, off => rfl
  | x :: xs, w, off => by simp only [putCells]; rw [heap_putCells_ne hb xs]; exact heap_setCell_ne hb
theorem putCells_same {b : Nat} : ∀ (xs : List Value) (w : World) (off : Nat), (putCells w b off xs).heap.size = w.heap.size ∧ (putCells w b off xs).os = w.os ∧ (putCells w b off xs).tape = w.tape ∧ (putCells w b off xs).output = w.output ∧ (putCells w b off xs).drawn = w.drawn
  | [], w, off => ⟨rfl, rfl, rfl, rfl, rfl⟩
  | x :: xs, w, off => by
    obtain ⟨h1, h2, h3, h4, h5⟩ := putCells_same (b := b) xs (w.setCell ⟨b, off, none⟩ x) (off + 1)
    exact ⟨h1.trans (by simp [World.setCell]), h2, h3, h4, h5⟩
theorem storeCells_run {b : Nat} {elem : TypeId} {fz : Nat × Nat} : ∀ (xs : List Value) (w : World) (c : Array Value) (off i : Nat), w.heap[b]? = some (.cells c elem fz) → (fz.2 ≤ fz.1 ∨ c.size ≤ fz.1) → off + i + xs.length ≤ c.size →
    (∀ x ∈ xs, one1 x = true) → (storeCells ⟨b, off, none⟩ xs i).run P w = .ok () (putCells w b (off + i) xs)
  | [], w, c, off, i, h, hz, hl, ho => rfl
  | x :: xs, w, c, off, i, h, hz, hl, ho => by
    simp only [storeCells, addr_add]
    simp only [List.length_cons] at hl
    have hcell : w.cell? ⟨b, off + i, none⟩ = some (c[off + i]'(by omega)) := by
      simp [World.cell?, h]
    have hfz : w.frozen? ⟨b, off + i, none⟩ = false := by
      simp only [World.frozen?, h]
      rcases fz with ⟨lo, hi⟩
      simp at hz ⊢; omega
    have hx := ho x (by simp)
    have hstore : (Go.store ⟨b, off + i, none⟩ x).run P w = .ok () (w.setCell ⟨b, off + i, none⟩ x) := by
      unfold Go.store
      cases x <;> first | (simp [one1] at hx; done) | simp [Sem.run, hcell, hfz]
    rw [run_ok hstore]
    rw [storeCells_run xs _ _ off (i + 1) (heap_setCell h) (by simpa using hz) (by simp; omega) (fun y hy => ho y (by simp [hy]))]
    rfl
theorem rep_one {t : TV} {x : Value} (h : Rep w F t x) (ho : oneT t = true) : one1 x = true := by
  cases t with
  | s v => simp only [Rep] at h; subst h; exact ho
  | any => cases ho
  | agg cs => cases ho
  | tup l => cases ho
  | nils => simp only [Rep] at h; obtain ⟨a, rfl⟩ := h; rfl
  | vs k es => simp only [Rep] at h; obtain ⟨a, n, c, rfl, _⟩ := h; rfl
  | rs b o n k => simp only [Rep] at h; obtain ⟨a, c, rfl, _⟩ := h; rfl
  | fp cs => simp only [Rep] at h; obtain ⟨a, c, rfl, _⟩ := h; rfl
  | clo fn f c => simp only [Rep] at h; obtain ⟨a, c, rfl, _⟩ := h; rfl
theorem repL_one : ∀ {ts : List TV} {xs : List Value}, RepL w F ts xs → ts.all oneT = true → ∀ x ∈ xs, one1 x = true
  | [], xs, h, ho => by simp only [RepL] at h; subst h; simp
  | t :: ts, xs, h, ho => by
    simp only [RepL] at h; obtain ⟨y, ys, rfl, h1, h2⟩ := h
    simp only [List.all_cons, Bool.and_eq_true] at ho
    intro x hx
    rcases List.mem_cons.1 hx with rfl | hx
    · exact rep_one h1 ho.1
    · exact repL_one h2 ho.2 x hx
theorem RootRel.ext {H' : Heap} {w' : World} {b : Nat} {r : Root} (e : Ext H w H' w') (hb : w'.heap[b]? = w.heap[b]?) (h : RootRel w (Fr H w) b r) : RootRel w' (Fr H' w') b r := by
  cases r with
  | cells cs => obtain ⟨c, elem, fz, h1, hz, h2, h3⟩ := h; exact ⟨c, elem, fz, hb.trans h1, hz, h2, h3.ext e⟩
  | map es => obtain ⟨ms, clock, h1, h2, h3⟩ := h; exact ⟨ms, clock, hb.trans h1, RepM.mono e.fr e.bsz _ _ h2, h3⟩
  | strIter s pos => exact hb.trans h
  | mapB es clock => obtain ⟨ms, h1, h2, h3⟩ := h; exact ⟨ms, hb.trans h1, RepM.mono e.fr e.bsz _ _ h2, h3⟩
  | exact o => exact hb.trans h
  | loop st pend ps asg body n env => obtain ⟨r, h1, h2, h3, h4, h5, h6, h7, h8⟩ := h; exact ⟨r, hb.trans h1, h2, h3, h4, h5, h6, h7, fun t v hv => ⟨(h8 t v hv).1, (h8 t v hv).2.ext e⟩⟩
theorem wrA_run {n : Nat} {g : Bool} {T : TypeId} {p v : TV} {x y : Value} {H' : Heap} (hh : HRel H w) (hp : Rep w (Fr H w) p x) (hv : Rep w (Fr H w) v y) (hs : szP P T = some (g, n)) (h : wrA H n p v = some H') :
    ∃ w', (Instr.storeAt T x y).run P w = .ok () w' ∧ HRel H' w' ∧ Ext H w H' w' := by
  unfold wrA at h
  split at h
  · rename_i b off vs hvs
    split at h
    · rename_i cs hb
      split at h
      · rename_i hc; obtain ⟨hn, hle, ho⟩ := hc
        simp only [Option.some.injEq] at h; subst h
        simp only [Rep] at hp; subst hp
        have hy := cells_rep hv hvs
        have hl := hy.length
        obtain ⟨c, elem, fz, hcell, hz, hsz, hr⟩ := hh b _ hb
        have hsame := putCells_same (b := b) y.cells.toList w off
        have hnew := heap_putCells (b := b) y.cells.toList w c off hcell
        have hset := setMany c y.cells.toList off (by rw [← hl, hn]; omega)
        generalize (y.cells.toList.zipIdx off |>.foldl (fun c p => c.setIfInBounds p.2 p.1) c) = c' at hnew hset
        have hyl : y.cells.toList.length = n := by rw [← hl, hn]
        have hsize : c'.size = c.size := by
          have := congrArg List.length hset
          rw [Array.length_toList, List.length_append, List.length_append, List.length_take, List.length_drop, Array.length_toList, hyl] at this
          omega
        have hE : Ext H w (upd H b (.cells (cs.take off ++ vs ++ cs.drop (off + n)))) (putCells w b off y.cells.toList) := by
          refine ⟨by rw [hsame.1]; exact Nat.le_refl _, fun b' hb' hn' => ?_, fun b' => ?_, hsame.2.1, hsame.2.2.1, hsame.2.2.2.1, dr_le (Nat.le_of_eq hsame.2.2.2.2.symm)⟩
          · have hne : b' ≠ b := by intro e; subst e; rw [hb] at hn'; cases hn'
            exact ⟨heap_putCells_ne hne _ _ _, by simp [upd, hne, hn']⟩
          · by_cases hne : b' = b
            · subst hne
              have e1 : bsz w b' = c.size := by unfold bsz; rw [hcell]
              have e2 : bsz (putCells w b' off y.cells.toList) b' = c'.size := by unfold bsz; rw [hnew]
              rw [e1, e2, hsize]; exact Nat.le_refl _
            · unfold bsz; rw [heap_putCells_ne hne]; exact Nat.le_refl _
        refine ⟨putCells w b off y.cells.toList, ?_, ?_, hE⟩
        · unfold Instr.storeAt
          rw [run_ok (a := (⟨b, off, none⟩ : Addr)) (w' := w) rfl]
          unfold storeVar
          rw [run_ok (run_size hs)]
          have hsz' : ¬ (y.cells.size ≠ n) := by rw [← Array.length_toList, ← hl, hn]; simp
          rw [if_neg hsz']
          have := storeCells_run (P := P) (b := b) y.cells.toList w c off 0 hcell hz (by rw [← hl, hn]; omega) (repL_one hy ho)
          exact this
        · intro b' r' hb'
          by_cases hne : b' = b
          · subst hne
            simp only [upd, if_true, Option.some.injEq] at hb'; subst hb'
            have hlen : (cs.take off ++ vs ++ cs.drop (off + n)).length = cs.length := by simp [hn]; omega
            refine ⟨_, elem, fz, hnew, ?_, ?_, ?_⟩
            · rw [hsize]; exact hz
            · rw [hsize, hlen]; exact hsz
            · rw [hset, hlen]
              have e1 : (c.toList.take off ++ y.cells.toList ++ c.toList.drop (off + y.cells.toList.length)).take cs.length = (c.toList.take cs.length).take off ++ y.cells.toList ++ (c.toList.take cs.length).drop (off + n) := by
                rw [List.take_append, List.take_append, List.take_take, List.take_take]
                have l1 : (c.toList.take off).length = off := by simp; omega
                rw [show min cs.length off = off by omega, show min off cs.length = off by omega]
                rw [l1, List.take_of_length_le (l := y.cells.toList) (by omega)]
                congr 1
                rw [hyl, List.drop_take]
                congr 1
                simp only [List.length_append, l1, hyl]; try omega
              rw [e1]
              have hr' := hr.ext hE
              have hy' := hy.ext hE
              exact RepL.append (RepL.append (hr'.take off) hy') (hr'.drop (off + n))
          · simp [upd, hne] at hb'
            exact (hh b' r' hb').ext hE (heap_putCells_ne hne _ _ _)
      · cases h
    · cases h
  · cases h
/-- A new block. -/
theorem alloc_rel (hh : HRel H w) {o : Obj} {r : Root} (hr : ∀ w' F', (∀ b, Fr H w b → F' b ∧ w'.heap[b]? = w.heap[b]?) → (∀ b, bsz w b ≤ bsz w' b) → w'.heap[w.heap.size]? = some o → RootRel w' F' w.heap.size r) :
    H w.heap.size = none ∧ HRel (upd H w.heap.size r) { w with heap := w.heap.push o } ∧ Ext H w (upd H w.heap.size r) { w with heap := w.heap.push o } := by
  have h0 : H w.heap.size = none := by
    cases e : H w.heap.size with
    | none => rfl
    | some r => exact absurd (hh.lt e) (Nat.lt_irrefl _)
  have hold : ∀ b, b < w.heap.size → (w.heap.push o)[b]? = w.heap[b]? := fun b hb => by rw [Array.getElem?_push, if_neg (by omega)]
  have hE : Ext H w (upd H w.heap.size r) { w with heap := w.heap.push o } := by
    refine ⟨by simp, fun b hb hn => ⟨hold b hb, by simp [upd, hn]; omega⟩, fun b => ?_, rfl, rfl, rfl, Nat.le_refl _⟩
    by_cases hb : b < w.heap.size
    · unfold bsz; simp only [hold b hb]; exact Nat.le_refl _
    · have : bsz w b = 0 := by unfold bsz; rw [Array.getElem?_eq_none (by omega)]
      omega
  refine ⟨h0, fun b r' hb => ?_, hE⟩
  by_cases hne : b = w.heap.size
  · subst hne
    simp [upd] at hb; subst hb
    exact hr _ _ hE.fr hE.bsz (by simp)
  · simp [upd, hne] at hb
    exact (hh b r' hb).ext hE (hold b (hh.lt hb))
theorem allocCells_rel (hh : HRel H w) {cs : List TV} {xs : Array Value} {elem : TypeId} (hx : RepL w (Fr H w) cs (xs.toList.take cs.length)) (hl : cs.length ≤ xs.size) :
    H w.heap.size = none ∧ HRel (upd H w.heap.size (.cells cs)) { w with heap := w.heap.push (.cells xs elem) } ∧ Ext H w (upd H w.heap.size (.cells cs)) { w with heap := w.heap.push (.cells xs elem) } :=
  alloc_rel hh fun w' F' hF hs ho => ⟨xs, elem, (0, 0), ho, .inl (Nat.le_refl _), hl, RepL.mono hF hs _ _ hx⟩
end
end Go.Abs
