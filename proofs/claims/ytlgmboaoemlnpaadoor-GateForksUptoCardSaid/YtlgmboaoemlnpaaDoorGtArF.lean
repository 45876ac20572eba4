import Derived.Test.YtlgmboaoemlnpaaDoorPx0
import Derived.Deep.MidRow
import Derived.KernelRfl
/- Arrays of eight structs, each as one thing: their cells, an element read, an element written, all of it read and written. -/
namespace Go.Proofs.YtlgmboaoemlnpaaDoor.P
open Go.RowKit Go.Proofs.YtlgmboaoemlnpaaDoorW.PrintWords Go.Proofs.YtlgmboaoemlnpaaDoorW.PrintLast Go.Proofs.YtlgmboaoemlnpaaDoorW.PrintMore
set_option linter.unusedVariables false
structure AR51 where
  e0 : S31
  e1 : S31
  e2 : S31
  e3 : S31
  e4 : S31
  e5 : S31
  e6 : S31
  e7 : S31
def AR51.z : AR51 := ⟨z31, z31, z31, z31, z31, z31, z31, z31⟩
def AR51.enc (x : AR51) : Array Value := #[.string x.e0.f0, .int .u16 x.e0.f1, .int .u32 x.e0.f2, .string x.e1.f0, .int .u16 x.e1.f1, .int .u32 x.e1.f2, .string x.e2.f0, .int .u16 x.e2.f1, .int .u32 x.e2.f2, .string x.e3.f0, .int .u16 x.e3.f1, .int .u32 x.e3.f2, .string x.e4.f0, .int .u16 x.e4.f1, .int .u32 x.e4.f2, .string x.e5.f0, .int .u16 x.e5.f1, .int .u32 x.e5.f2, .string x.e6.f0, .int .u16 x.e6.f1, .int .u32 x.e6.f2, .string x.e7.f0, .int .u16 x.e7.f1, .int .u32 x.e7.f2]
def AR51.rd (x : AR51) (j : Int) : S31 := if j = 0 then x.e0 else if j = 1 then x.e1 else if j = 2 then x.e2 else if j = 3 then x.e3 else if j = 4 then x.e4 else if j = 5 then x.e5 else if j = 6 then x.e6 else x.e7
def AR51.up (x : AR51) (j : Int) (b : S31) : AR51 := if j = 0 then { x with e0 := b } else if j = 1 then { x with e1 := b } else if j = 2 then { x with e2 := b } else if j = 3 then { x with e3 := b } else if j = 4 then { x with e4 := b } else if j = 5 then { x with e5 := b } else if j = 6 then { x with e6 := b } else { x with e7 := b }
@[reducible] def AR51.setAll (w : World) (g : Nat) (x : AR51) : World := ((((((((((((((((((((((((w.setCell ⟨g, 0, none⟩ (.string x.e0.f0)).setCell ⟨g, 1, none⟩ (.int .u16 x.e0.f1)).setCell ⟨g, 2, none⟩ (.int .u32 x.e0.f2)).setCell ⟨g, 3, none⟩ (.string x.e1.f0)).setCell ⟨g, 4, none⟩ (.int .u16 x.e1.f1)).setCell ⟨g, 5, none⟩ (.int .u32 x.e1.f2)).setCell ⟨g, 6, none⟩ (.string x.e2.f0)).setCell ⟨g, 7, none⟩ (.int .u16 x.e2.f1)).setCell ⟨g, 8, none⟩ (.int .u32 x.e2.f2)).setCell ⟨g, 9, none⟩ (.string x.e3.f0)).setCell ⟨g, 10, none⟩ (.int .u16 x.e3.f1)).setCell ⟨g, 11, none⟩ (.int .u32 x.e3.f2)).setCell ⟨g, 12, none⟩ (.string x.e4.f0)).setCell ⟨g, 13, none⟩ (.int .u16 x.e4.f1)).setCell ⟨g, 14, none⟩ (.int .u32 x.e4.f2)).setCell ⟨g, 15, none⟩ (.string x.e5.f0)).setCell ⟨g, 16, none⟩ (.int .u16 x.e5.f1)).setCell ⟨g, 17, none⟩ (.int .u32 x.e5.f2)).setCell ⟨g, 18, none⟩ (.string x.e6.f0)).setCell ⟨g, 19, none⟩ (.int .u16 x.e6.f1)).setCell ⟨g, 20, none⟩ (.int .u32 x.e6.f2)).setCell ⟨g, 21, none⟩ (.string x.e7.f0)).setCell ⟨g, 22, none⟩ (.int .u16 x.e7.f1)).setCell ⟨g, 23, none⟩ (.int .u32 x.e7.f2))
@[reducible] def AR51.setAt (w : World) (g : Nat) (j : Int) (b : S31) : World := ((w.setCell ⟨g, j.toNat * 3, none⟩ (.string b.f0)).setCell ⟨g, j.toNat * 3 + 1, none⟩ (.int .u16 b.f1)).setCell ⟨g, j.toNat * 3 + 2, none⟩ (.int .u32 b.f2)
theorem AR51.cases (j : Int) (h0 : 0 ≤ j) (h8 : j < 8) : j = 0 ∨ j = 1 ∨ j = 2 ∨ j = 3 ∨ j = 4 ∨ j = 5 ∨ j = 6 ∨ j = 7 := by omega
theorem AR51.at_ {w : World} {g : Nat} {x : AR51} {t : TypeId} (h : w.heap[g]? = some (.cells x.enc t (0, 0))) (j : Int) (h0 : 0 ≤ j) (h8 : j < 8) :
    w.cell? ⟨g, j.toNat * 3, none⟩ = some (.string (x.rd j).f0) ∧ w.cell? ⟨g, j.toNat * 3 + 1, none⟩ = some (.int .u16 (x.rd j).f1) ∧ w.cell? ⟨g, j.toNat * 3 + 2, none⟩ = some (.int .u32 (x.rd j).f2) := by
  rcases AR51.cases j h0 h8 with rfl | rfl | rfl | rfl | rfl | rfl | rfl | rfl <;> exact ⟨(blk_cell h _).trans rfl, (blk_cell h _).trans rfl, (blk_cell h _).trans rfl⟩
theorem AR51.fz {w : World} {g : Nat} {x : AR51} {t : TypeId} (h : w.heap[g]? = some (.cells x.enc t (0, 0))) (j : Int) :
    w.frozen? ⟨g, j.toNat * 3, none⟩ = false ∧ w.frozen? ⟨g, j.toNat * 3 + 1, none⟩ = false ∧ w.frozen? ⟨g, j.toNat * 3 + 2, none⟩ = false := ⟨blk_frozen h _, blk_frozen h _, blk_frozen h _⟩
theorem AR51.putAt {w : World} {g : Nat} {x : AR51} {t : TypeId} (h : w.heap[g]? = some (.cells x.enc t (0, 0))) (j : Int) (h0 : 0 ≤ j) (h8 : j < 8) (b : S31) :
    (AR51.setAt w g j b).heap[g]? = some (.cells (x.up j b).enc t (0, 0)) := by
  have h3 := blk_set (blk_set (blk_set h (j.toNat * 3) (.string b.f0)) (j.toNat * 3 + 1) (.int .u16 b.f1)) (j.toNat * 3 + 2) (.int .u32 b.f2)
  refine h3.trans ?_
  rcases AR51.cases j h0 h8 with rfl | rfl | rfl | rfl | rfl | rfl | rfl | rfl <;> kernel_rfl
theorem AR51.putAll {w : World} {g : Nat} {x y : AR51} {t : TypeId} (h : w.heap[g]? = some (.cells x.enc t (0, 0))) : (AR51.setAll w g y).heap[g]? = some (.cells y.enc t (0, 0)) := by
  refine (blk_set (blk_set (blk_set (blk_set (blk_set (blk_set (blk_set (blk_set (blk_set (blk_set (blk_set (blk_set (blk_set (blk_set (blk_set (blk_set (blk_set (blk_set (blk_set (blk_set (blk_set (blk_set (blk_set (blk_set h 0 _) 1 _) 2 _) 3 _) 4 _) 5 _) 6 _) 7 _) 8 _) 9 _) 10 _) 11 _) 12 _) 13 _) 14 _) 15 _) 16 _) 17 _) 18 _) 19 _) 20 _) 21 _) 22 _) 23 _).trans ?_
  kernel_rfl
theorem AR51.range {w : World} {g : Nat} {x : AR51} {t : TypeId} (h : w.heap[g]? = some (.cells x.enc t (0, 0))) : w.rangeAt g 0 x.enc.toList := fun j v hv => by
  rw [Nat.zero_add, blk_cell h j, ← hv]
  simp
theorem AR51.there {w : World} {g : Nat} {x : AR51} {t : TypeId} (h : w.heap[g]? = some (.cells x.enc t (0, 0))) : w.there g 0 24 := fun j hj => by
  rw [Nat.zero_add]
  refine ⟨?_, blk_frozen h j⟩
  rw [blk_cell h j]
  have : x.enc.size = 24 := rfl
  simp [this, hj]
theorem AR51.sets (w : World) (g : Nat) (y : AR51) : w.setCells g 0 y.enc.toList = AR51.setAll w g y := rfl
theorem AR51.ld51 {w : World} {g : Nat} {x : AR51} {t : TypeId} {a : Act} {o : Oper} {p : Operand} (h : w.heap[g]? = some (.cells x.enc t (0, 0))) (ho : o.op = .load 51 p := by rfl) (hp : a.eval p = .pointer (some ⟨g, 0, none⟩) := by rfl) :
    (execOp a.eval o).run Tryd.prog w = .ok (.value (.agg x.enc)) w := by
  have hl := run_loadAt_mid (P := Tryd.prog) w g 0 51 x.enc.toList _ (AR51.range h) Tryd.underlying51 rfl (by kernel_rfl)
  unfold execOp
  simp [ho, hp, hl]
theorem AR51.st51 {w : World} {g : Nat} {x y : AR51} {t : TypeId} {a : Act} {o : Oper} {p q : Operand} (h : w.heap[g]? = some (.cells x.enc t (0, 0))) (ho : o.op = .store 51 p q := by rfl) (hp : a.eval p = .pointer (some ⟨g, 0, none⟩) := by rfl) (hq : a.eval q = .agg y.enc := by rfl) :
    (execOp a.eval o).run Tryd.prog w = .ok .skip (AR51.setAll w g y) := by
  have hl := run_storeAt_mid (P := Tryd.prog) w g 0 51 y.enc (AR51.there h) (by kernel_rfl) (by kernel_rfl)
  rw [AR51.sets] at hl
  unfold execOp
  simp [ho, hp, hq, hl]
theorem AR51.ld53 {w : World} {g : Nat} {x : AR51} {t : TypeId} {a : Act} {o : Oper} {p : Operand} (h : w.heap[g]? = some (.cells x.enc t (0, 0))) (ho : o.op = .load 53 p := by rfl) (hp : a.eval p = .pointer (some ⟨g, 0, none⟩) := by rfl) :
    (execOp a.eval o).run Tryd.prog w = .ok (.value (.agg x.enc)) w := by
  have hl := run_loadAt_mid (P := Tryd.prog) w g 0 53 x.enc.toList _ (AR51.range h) Tryd.underlying53 rfl (by kernel_rfl)
  unfold execOp
  simp [ho, hp, hl]
theorem AR51.st53 {w : World} {g : Nat} {x y : AR51} {t : TypeId} {a : Act} {o : Oper} {p q : Operand} (h : w.heap[g]? = some (.cells x.enc t (0, 0))) (ho : o.op = .store 53 p q := by rfl) (hp : a.eval p = .pointer (some ⟨g, 0, none⟩) := by rfl) (hq : a.eval q = .agg y.enc := by rfl) :
    (execOp a.eval o).run Tryd.prog w = .ok .skip (AR51.setAll w g y) := by
  have hl := run_storeAt_mid (P := Tryd.prog) w g 0 53 y.enc (AR51.there h) (by kernel_rfl) (by kernel_rfl)
  rw [AR51.sets] at hl
  unfold execOp
  simp [ho, hp, hq, hl]
theorem AR51.wl51 {w : World} {g : Nat} {x : AR51} {t : TypeId} {a : Act} {o : Oper} {p : Operand} {ops : Array Oper} {rest : List Oper} {Q : Exit → Act → World → Prop} (h : w.heap[g]? = some (.cells x.enc t (0, 0))) (hn : wpList Tryd.prog ops Q rest (a.put o.dst (.agg x.enc)) w)
    (hg : o.guard = none := by rfl) (ho : o.op = .load 51 p := by rfl) (hp : a.eval p = .pointer (some ⟨g, 0, none⟩) := by rfl) : wpList Tryd.prog ops Q (o :: rest) a w :=
  wpList_load_mid hg 51 p ho g 0 hp x.enc.toList _ (AR51.range h) Tryd.underlying51 rfl (by kernel_rfl) hn
theorem AR51.wl53 {w : World} {g : Nat} {x : AR51} {t : TypeId} {a : Act} {o : Oper} {p : Operand} {ops : Array Oper} {rest : List Oper} {Q : Exit → Act → World → Prop} (h : w.heap[g]? = some (.cells x.enc t (0, 0))) (hn : wpList Tryd.prog ops Q rest (a.put o.dst (.agg x.enc)) w)
    (hg : o.guard = none := by rfl) (ho : o.op = .load 53 p := by rfl) (hp : a.eval p = .pointer (some ⟨g, 0, none⟩) := by rfl) : wpList Tryd.prog ops Q (o :: rest) a w :=
  wpList_load_mid hg 53 p ho g 0 hp x.enc.toList _ (AR51.range h) Tryd.underlying53 rfl (by kernel_rfl) hn
theorem AR51.ix (x : AR51) (j : Int) (h0 : 0 ≤ j) (h8 : j < 8) (W : World) : (Instr.index 51 (.agg x.enc) (.int .i64 j)).run Tryd.prog W = .ok (.agg #[.string (x.rd j).f0, .int .u16 (x.rd j).f1, .int .u32 (x.rd j).f2]) W := by
  rcases AR51.cases j h0 h8 with rfl | rfl | rfl | rfl | rfl | rfl | rfl | rfl <;> kernel_rfl
structure AR39 where
  e0 : S38
  e1 : S38
  e2 : S38
  e3 : S38
  e4 : S38
  e5 : S38
  e6 : S38
  e7 : S38
def AR39.z : AR39 := ⟨z38, z38, z38, z38, z38, z38, z38, z38⟩
def AR39.enc (x : AR39) : Array Value := #[.string x.e0.f0, .int .u16 x.e0.f1, .int .u32 x.e0.f2, .string x.e1.f0, .int .u16 x.e1.f1, .int .u32 x.e1.f2, .string x.e2.f0, .int .u16 x.e2.f1, .int .u32 x.e2.f2, .string x.e3.f0, .int .u16 x.e3.f1, .int .u32 x.e3.f2, .string x.e4.f0, .int .u16 x.e4.f1, .int .u32 x.e4.f2, .string x.e5.f0, .int .u16 x.e5.f1, .int .u32 x.e5.f2, .string x.e6.f0, .int .u16 x.e6.f1, .int .u32 x.e6.f2, .string x.e7.f0, .int .u16 x.e7.f1, .int .u32 x.e7.f2]
def AR39.rd (x : AR39) (j : Int) : S38 := if j = 0 then x.e0 else if j = 1 then x.e1 else if j = 2 then x.e2 else if j = 3 then x.e3 else if j = 4 then x.e4 else if j = 5 then x.e5 else if j = 6 then x.e6 else x.e7
def AR39.up (x : AR39) (j : Int) (b : S38) : AR39 := if j = 0 then { x with e0 := b } else if j = 1 then { x with e1 := b } else if j = 2 then { x with e2 := b } else if j = 3 then { x with e3 := b } else if j = 4 then { x with e4 := b } else if j = 5 then { x with e5 := b } else if j = 6 then { x with e6 := b } else { x with e7 := b }
@[reducible] def AR39.setAll (w : World) (g : Nat) (x : AR39) : World := ((((((((((((((((((((((((w.setCell ⟨g, 0, none⟩ (.string x.e0.f0)).setCell ⟨g, 1, none⟩ (.int .u16 x.e0.f1)).setCell ⟨g, 2, none⟩ (.int .u32 x.e0.f2)).setCell ⟨g, 3, none⟩ (.string x.e1.f0)).setCell ⟨g, 4, none⟩ (.int .u16 x.e1.f1)).setCell ⟨g, 5, none⟩ (.int .u32 x.e1.f2)).setCell ⟨g, 6, none⟩ (.string x.e2.f0)).setCell ⟨g, 7, none⟩ (.int .u16 x.e2.f1)).setCell ⟨g, 8, none⟩ (.int .u32 x.e2.f2)).setCell ⟨g, 9, none⟩ (.string x.e3.f0)).setCell ⟨g, 10, none⟩ (.int .u16 x.e3.f1)).setCell ⟨g, 11, none⟩ (.int .u32 x.e3.f2)).setCell ⟨g, 12, none⟩ (.string x.e4.f0)).setCell ⟨g, 13, none⟩ (.int .u16 x.e4.f1)).setCell ⟨g, 14, none⟩ (.int .u32 x.e4.f2)).setCell ⟨g, 15, none⟩ (.string x.e5.f0)).setCell ⟨g, 16, none⟩ (.int .u16 x.e5.f1)).setCell ⟨g, 17, none⟩ (.int .u32 x.e5.f2)).setCell ⟨g, 18, none⟩ (.string x.e6.f0)).setCell ⟨g, 19, none⟩ (.int .u16 x.e6.f1)).setCell ⟨g, 20, none⟩ (.int .u32 x.e6.f2)).setCell ⟨g, 21, none⟩ (.string x.e7.f0)).setCell ⟨g, 22, none⟩ (.int .u16 x.e7.f1)).setCell ⟨g, 23, none⟩ (.int .u32 x.e7.f2))
@[reducible] def AR39.setAt (w : World) (g : Nat) (j : Int) (b : S38) : World := ((w.setCell ⟨g, j.toNat * 3, none⟩ (.string b.f0)).setCell ⟨g, j.toNat * 3 + 1, none⟩ (.int .u16 b.f1)).setCell ⟨g, j.toNat * 3 + 2, none⟩ (.int .u32 b.f2)
theorem AR39.cases (j : Int) (h0 : 0 ≤ j) (h8 : j < 8) : j = 0 ∨ j = 1 ∨ j = 2 ∨ j = 3 ∨ j = 4 ∨ j = 5 ∨ j = 6 ∨ j = 7 := by omega
theorem AR39.at_ {w : World} {g : Nat} {x : AR39} {t : TypeId} (h : w.heap[g]? = some (.cells x.enc t (0, 0))) (j : Int) (h0 : 0 ≤ j) (h8 : j < 8) :
    w.cell? ⟨g, j.toNat * 3, none⟩ = some (.string (x.rd j).f0) ∧ w.cell? ⟨g, j.toNat * 3 + 1, none⟩ = some (.int .u16 (x.rd j).f1) ∧ w.cell? ⟨g, j.toNat * 3 + 2, none⟩ = some (.int .u32 (x.rd j).f2) := by
  rcases AR39.cases j h0 h8 with rfl | rfl | rfl | rfl | rfl | rfl | rfl | rfl <;> exact ⟨(blk_cell h _).trans rfl, (blk_cell h _).trans rfl, (blk_cell h _).trans rfl⟩
theorem AR39.fz {w : World} {g : Nat} {x : AR39} {t : TypeId} (h : w.heap[g]? = some (.cells x.enc t (0, 0))) (j : Int) :
    w.frozen? ⟨g, j.toNat * 3, none⟩ = false ∧ w.frozen? ⟨g, j.toNat * 3 + 1, none⟩ = false ∧ w.frozen? ⟨g, j.toNat * 3 + 2, none⟩ = false := ⟨blk_frozen h _, blk_frozen h _, blk_frozen h _⟩
theorem AR39.putAt {w : World} {g : Nat} {x : AR39} {t : TypeId} (h : w.heap[g]? = some (.cells x.enc t (0, 0))) (j : Int) (h0 : 0 ≤ j) (h8 : j < 8) (b : S38) :
    (AR39.setAt w g j b).heap[g]? = some (.cells (x.up j b).enc t (0, 0)) := by
  have h3 := blk_set (blk_set (blk_set h (j.toNat * 3) (.string b.f0)) (j.toNat * 3 + 1) (.int .u16 b.f1)) (j.toNat * 3 + 2) (.int .u32 b.f2)
  refine h3.trans ?_
  rcases AR39.cases j h0 h8 with rfl | rfl | rfl | rfl | rfl | rfl | rfl | rfl <;> kernel_rfl
theorem AR39.putAll {w : World} {g : Nat} {x y : AR39} {t : TypeId} (h : w.heap[g]? = some (.cells x.enc t (0, 0))) : (AR39.setAll w g y).heap[g]? = some (.cells y.enc t (0, 0)) := by
  refine (blk_set (blk_set (blk_set (blk_set (blk_set (blk_set (blk_set (blk_set (blk_set (blk_set (blk_set (blk_set (blk_set (blk_set (blk_set (blk_set (blk_set (blk_set (blk_set (blk_set (blk_set (blk_set (blk_set (blk_set h 0 _) 1 _) 2 _) 3 _) 4 _) 5 _) 6 _) 7 _) 8 _) 9 _) 10 _) 11 _) 12 _) 13 _) 14 _) 15 _) 16 _) 17 _) 18 _) 19 _) 20 _) 21 _) 22 _) 23 _).trans ?_
  kernel_rfl
theorem AR39.range {w : World} {g : Nat} {x : AR39} {t : TypeId} (h : w.heap[g]? = some (.cells x.enc t (0, 0))) : w.rangeAt g 0 x.enc.toList := fun j v hv => by
  rw [Nat.zero_add, blk_cell h j, ← hv]
  simp
theorem AR39.there {w : World} {g : Nat} {x : AR39} {t : TypeId} (h : w.heap[g]? = some (.cells x.enc t (0, 0))) : w.there g 0 24 := fun j hj => by
  rw [Nat.zero_add]
  refine ⟨?_, blk_frozen h j⟩
  rw [blk_cell h j]
  have : x.enc.size = 24 := rfl
  simp [this, hj]
theorem AR39.sets (w : World) (g : Nat) (y : AR39) : w.setCells g 0 y.enc.toList = AR39.setAll w g y := rfl
theorem AR39.ld39 {w : World} {g : Nat} {x : AR39} {t : TypeId} {a : Act} {o : Oper} {p : Operand} (h : w.heap[g]? = some (.cells x.enc t (0, 0))) (ho : o.op = .load 39 p := by rfl) (hp : a.eval p = .pointer (some ⟨g, 0, none⟩) := by rfl) :
    (execOp a.eval o).run Tryd.prog w = .ok (.value (.agg x.enc)) w := by
  have hl := run_loadAt_mid (P := Tryd.prog) w g 0 39 x.enc.toList _ (AR39.range h) Tryd.underlying39 rfl (by kernel_rfl)
  unfold execOp
  simp [ho, hp, hl]
theorem AR39.st39 {w : World} {g : Nat} {x y : AR39} {t : TypeId} {a : Act} {o : Oper} {p q : Operand} (h : w.heap[g]? = some (.cells x.enc t (0, 0))) (ho : o.op = .store 39 p q := by rfl) (hp : a.eval p = .pointer (some ⟨g, 0, none⟩) := by rfl) (hq : a.eval q = .agg y.enc := by rfl) :
    (execOp a.eval o).run Tryd.prog w = .ok .skip (AR39.setAll w g y) := by
  have hl := run_storeAt_mid (P := Tryd.prog) w g 0 39 y.enc (AR39.there h) (by kernel_rfl) (by kernel_rfl)
  rw [AR39.sets] at hl
  unfold execOp
  simp [ho, hp, hq, hl]
theorem AR39.ld41 {w : World} {g : Nat} {x : AR39} {t : TypeId} {a : Act} {o : Oper} {p : Operand} (h : w.heap[g]? = some (.cells x.enc t (0, 0))) (ho : o.op = .load 41 p := by rfl) (hp : a.eval p = .pointer (some ⟨g, 0, none⟩) := by rfl) :
    (execOp a.eval o).run Tryd.prog w = .ok (.value (.agg x.enc)) w := by
  have hl := run_loadAt_mid (P := Tryd.prog) w g 0 41 x.enc.toList _ (AR39.range h) Tryd.underlying41 rfl (by kernel_rfl)
  unfold execOp
  simp [ho, hp, hl]
theorem AR39.st41 {w : World} {g : Nat} {x y : AR39} {t : TypeId} {a : Act} {o : Oper} {p q : Operand} (h : w.heap[g]? = some (.cells x.enc t (0, 0))) (ho : o.op = .store 41 p q := by rfl) (hp : a.eval p = .pointer (some ⟨g, 0, none⟩) := by rfl) (hq : a.eval q = .agg y.enc := by rfl) :
    (execOp a.eval o).run Tryd.prog w = .ok .skip (AR39.setAll w g y) := by
  have hl := run_storeAt_mid (P := Tryd.prog) w g 0 41 y.enc (AR39.there h) (by kernel_rfl) (by kernel_rfl)
  rw [AR39.sets] at hl
  unfold execOp
  simp [ho, hp, hq, hl]
theorem AR39.wl39 {w : World} {g : Nat} {x : AR39} {t : TypeId} {a : Act} {o : Oper} {p : Operand} {ops : Array Oper} {rest : List Oper} {Q : Exit → Act → World → Prop} (h : w.heap[g]? = some (.cells x.enc t (0, 0))) (hn : wpList Tryd.prog ops Q rest (a.put o.dst (.agg x.enc)) w)
    (hg : o.guard = none := by rfl) (ho : o.op = .load 39 p := by rfl) (hp : a.eval p = .pointer (some ⟨g, 0, none⟩) := by rfl) : wpList Tryd.prog ops Q (o :: rest) a w :=
  wpList_load_mid hg 39 p ho g 0 hp x.enc.toList _ (AR39.range h) Tryd.underlying39 rfl (by kernel_rfl) hn
theorem AR39.wl41 {w : World} {g : Nat} {x : AR39} {t : TypeId} {a : Act} {o : Oper} {p : Operand} {ops : Array Oper} {rest : List Oper} {Q : Exit → Act → World → Prop} (h : w.heap[g]? = some (.cells x.enc t (0, 0))) (hn : wpList Tryd.prog ops Q rest (a.put o.dst (.agg x.enc)) w)
    (hg : o.guard = none := by rfl) (ho : o.op = .load 41 p := by rfl) (hp : a.eval p = .pointer (some ⟨g, 0, none⟩) := by rfl) : wpList Tryd.prog ops Q (o :: rest) a w :=
  wpList_load_mid hg 41 p ho g 0 hp x.enc.toList _ (AR39.range h) Tryd.underlying41 rfl (by kernel_rfl) hn
theorem AR39.ix (x : AR39) (j : Int) (h0 : 0 ≤ j) (h8 : j < 8) (W : World) : (Instr.index 39 (.agg x.enc) (.int .i64 j)).run Tryd.prog W = .ok (.agg #[.string (x.rd j).f0, .int .u16 (x.rd j).f1, .int .u32 (x.rd j).f2]) W := by
  rcases AR39.cases j h0 h8 with rfl | rfl | rfl | rfl | rfl | rfl | rfl | rfl <;> kernel_rfl
end Go.Proofs.YtlgmboaoemlnpaaDoor.P
