-- WRITTEN BY bud.py (a program of this session's over the kit's print). Not trusted: Lean checks it.
import Derived.Test.YtlgmboaoemlnpaaDoorPx0
import Derived.Test.YtlgmboaoemlnpaaDoorGtArF
import Derived.Test.YtlgmboaoemlnpaaDoorGtIdxF
namespace Go.Proofs.YtlgmboaoemlnpaaDoor.P
open Go.RowKit Go.Proofs.YtlgmboaoemlnpaaDoorW.PrintWords Go.Proofs.YtlgmboaoemlnpaaDoorW.PrintLast Go.Proofs.YtlgmboaoemlnpaaDoorW.PrintMore
attribute [local go_sem] max2_int min2_int max_two min_two max_three min_three max_four min_four   -- for this text's walks alone
set_option linter.unusedVariables false
set_option linter.unusedSimpArgs false

/-- A state of type 53 at block g of W; what its slices lead to came in by w0. -/
def IsS53 (w0 W : World) (g : Nat) (f0 : AR51) : Prop := W.heap[g]? = some (.cells (AR51.enc f0) 53 (0, 0)) ∧ w0.heap.size ≤ g
theorem IsS53.grown {w0 W : World} {g : Nat} {f0 : AR51} {W1 : World} {row : Option Nat} (h : IsS53 w0 W g f0) (hw : W.grownBy W1 row) (hne : some g ≠ row) : IsS53 w0 W1 g f0 := by
  obtain ⟨hb, hg⟩ := h
  exact ⟨blk_grown hb hw hne, hg⟩
theorem IsS53.own_neN {w0 W : World} {g : Nat} {f0 : AR51} {α : Type} {d : Kd α} {e : Nat} {base : Nat} {ok : Nat → Prop} {v : Value} {xs : List α} (h : IsS53 w0 W g f0) (ho : Kd.N d e W base ok v xs) (ht : e ≠ 53) : some g ≠ v.ownBlock := by
  obtain ⟨hb, hg⟩ := h
  exact Kd.N_ne ho hb ht
theorem IsS53.fresh {w0 W : World} {g : Nat} {f0 : AR51} (h : IsS53 w0 W g f0) : ∀ k, W.heap.size ≤ k → k ≠ g := by
  obtain ⟨hb, hg⟩ := h
  exact Kd.freshB hb
theorem IsS53.kept {w0 W : World} {g : Nat} {f0 : AR51} {W1 : World} {S : Nat → Prop} (h : IsS53 w0 W g f0) (hk : Kept W W1 S) (hne : ¬ S g) : IsS53 w0 W1 g f0 := by
  obtain ⟨hb, hg⟩ := h
  exact ⟨blk_kept hb hk hne, hg⟩
theorem IsS53.below {w0 W : World} {g : Nat} {f0 : AR51} {W1 : World} (h : IsS53 w0 W g f0) (hw : Below W.heap.size W W1) : IsS53 w0 W1 g f0 := h.grown (grown_of_below hw none) (by simp)
theorem IsS53.alloc {w0 W : World} {g : Nat} {f0 : AR51} (h : IsS53 w0 W g f0) (o : Obj) : IsS53 w0 (W.alloc o) g f0 := h.below (below_alloc (Below.refl _ _) o)
theorem IsS53.drewN {w0 W : World} {g : Nat} {f0 : AR51} (h : IsS53 w0 W g f0) (m : Nat) : IsS53 w0 (W.drewN m) g f0 := h
theorem IsS53.drew {w0 W : World} {g : Nat} {f0 : AR51} (h : IsS53 w0 W g f0) : IsS53 w0 W.drew g f0 := h
theorem IsS53.at_ {w0 W : World} {g : Nat} {f0 : AR51} {w' : World} {m : Nat} (hq : W.drewN m = w') (h : IsS53 w0 W g f0) : IsS53 w0 w' g f0 := by subst hq; exact IsS53.drewN h m
theorem IsS53.apart {w0 W : World} {g : Nat} {f0 : AR51} {α : Type} {d : Kd α} {e : Nat} {base : Nat} {ok : Nat → Prop} {v : Value} {xs : List α} (h : IsS53 w0 W g f0) (ho : d.R e W base ok v xs) (ht : ∀ q, q ∈ e :: d.E → q ≠ 53) : d.R e W base (fun k => ok k ∧ k ≠ g) v xs := by
  obtain ⟨hb, hg⟩ := h
  exact Kd.R_types ho hb ht
theorem IsS53.own_ne {w0 W : World} {g : Nat} {f0 : AR51} {α : Type} {d : Kd α} {e : Nat} {base : Nat} {ok : Nat → Prop} {v : Value} {xs : List α} (h : IsS53 w0 W g f0) (ho : d.R e W base ok v xs) (ht : e ≠ 53) : some g ≠ v.ownBlock := by
  obtain ⟨hb, hg⟩ := h
  exact Kd.R_ne ho hb ht
theorem IsS53.apartQ {w0 W : World} {g : Nat} {f0 : AR51} {α : Type} {d : Kd α} {e : Nat} {base : Nat} {ok : Nat → Prop} {v : Value} {xs : List α} (h : IsS53 w0 W g f0) (ho : d.Q e W base ok v xs) (ht : ∀ q, q ∈ e :: d.E → q ≠ 53) : d.Q e W base (fun k => ok k ∧ k ≠ g) v xs := by
  obtain ⟨hb, hg⟩ := h
  exact Kd.Q_types ho hb ht
theorem IsS53.own_neQ {w0 W : World} {g : Nat} {f0 : AR51} {α : Type} {d : Kd α} {e : Nat} {base : Nat} {ok : Nat → Prop} {v : Value} {xs : List α} (h : IsS53 w0 W g f0) (ho : d.Q e W base ok v xs) (ht : e ≠ 53) : some g ≠ v.ownBlock := by
  obtain ⟨hb, hg⟩ := h
  exact Kd.Q_ne ho hb ht
theorem IsS53.apartS {w0 W : World} {g : Nat} {f0 : AR51} {α : Type} {d : Kd α} {e : Nat} {base : Nat} {ok : Nat → Prop} {v : Value} {xs : List α} (h : IsS53 w0 W g f0) (ho : d.S e W base ok v xs) (ht : ∀ q, q ∈ e :: d.E → q ≠ 53) : d.S e W base (fun k => ok k ∧ k ≠ g) v xs := by
  obtain ⟨hb, hg⟩ := h
  exact Kd.S_types ho hb ht
theorem IsS53.own_neS {w0 W : World} {g : Nat} {f0 : AR51} {α : Type} {d : Kd α} {e : Nat} {base : Nat} {ok : Nat → Prop} {v : Value} {xs : List α} (h : IsS53 w0 W g f0) (ho : d.S e W base ok v xs) (ht : e ≠ 53) : some g ≠ v.ownBlock := by
  obtain ⟨hb, hg⟩ := h
  exact Kd.S_ne ho hb ht
theorem IsS53.lt {w0 W : World} {g : Nat} {f0 : AR51} (h : IsS53 w0 W g f0) : g < W.heap.size := by
  obtain ⟨hb, hg⟩ := h
  exact blk_lt hb
theorem IsS53.ge {w0 W : World} {g : Nat} {f0 : AR51} (h : IsS53 w0 W g f0) : w0.heap.size ≤ g := by
  obtain ⟨hb, hg⟩ := h
  exact hg
theorem IsS53.ne_blk {w0 W : World} {g : Nat} {f0 : AR51} {a : Nat} {cs : Array Value} {t : TypeId} {fr : Nat × Nat} (h : IsS53 w0 W g f0) (hb2 : W.heap[a]? = some (.cells cs t fr)) (ht : t ≠ 53) : g ≠ a := by
  obtain ⟨hb, hg⟩ := h
  rintro rfl
  rw [hb] at hb2
  injection hb2 with hb2
  injection hb2 with _ ht2
  exact ht ht2.symm
theorem IsS53.far {w0 W : World} {g : Nat} {f0 : AR51} {p : Addr} (h : IsS53 w0 W g f0) (hne : g ≠ p.block) (u : Value) : IsS53 w0 (W.setCell p u) g f0 := by
  obtain ⟨hb, hg⟩ := h
  exact ⟨blk_far hb hne u, hg⟩
theorem IsS53.new (w0 W : World) (f0 : AR51) (hB : Below w0.heap.size w0 W) : IsS53 w0 (W.alloc (.cells (AR51.enc f0) 53)) W.heap.size f0 := ⟨by simpa using heap_alloc_new W _, hB.size⟩
theorem IsS53.putAt {w0 W : World} {g : Nat} {f0 : AR51} {j : Int} {b : S31} {W1 : World} {f1 : AR51} (h : IsS53 w0 W g f0) (hf : f1 = f0.up j b) (hW : W1 = AR51.setAt W g j b) (h0 : 0 ≤ j) (h8 : j < 8) : IsS53 w0 W1 g f1 := by subst hf; subst hW; exact ⟨AR51.putAt h.1 j h0 h8 b, h.2⟩
theorem IsS53.putAll {w0 W : World} {g : Nat} {f0 y : AR51} (h : IsS53 w0 W g f0) : IsS53 w0 (AR51.setAll W g y) g y := ⟨AR51.putAll h.1, h.2⟩

/-! ### gate_New: function 8 -/
def gate_New.f  : Option (AR51) := some AR51.z

/-! ### name_Split: function 31 -/
def name_Split.j0 : Nat → ByteArray → ByteArray → Int → Bool → Option (ByteArray × Int × Int)
  | 0, _, _, _, _ => none
  | k + 1, x0, x5, x8, x17 => if x17 = true then (some ((⟨#[]⟩ : ByteArray), 0, 6)) else ((name_Runes.f x0).bind fun t107 => (if t107 > 24 then (some ((⟨#[]⟩ : ByteArray), 0, 5)) else (some (x5, x8, 0))))
def name_Split.f (k : Nat) (a0 : ByteArray) : Option (ByteArray × Int × Int) := (strings_Cut.f a0 (⟨#[64]⟩ : ByteArray)).bind fun bt102 => ((name_version.f bt102.2.1).bind fun t105 => ((name_isStem.f bt102.1).bind fun t106 => (if t106 = true then (if bt102.2.2 = true then (name_Split.j0 k a0 bt102.1 t105 (t105 == 0)) else (name_Split.j0 k a0 bt102.1 t105 false)) else (name_Split.j0 k a0 bt102.1 t105 true))))
theorem name_Split.mono_l : ∀ k, (∀ y0 y1 y2 y3, LeO (name_Split.j0 k y0 y1 y2 y3) (name_Split.j0 (k + 1) y0 y1 y2 y3))
  | 0 => fun _ _ _ _ r h => by simp [name_Split.j0] at h
  | k + 1 => by
    have ih0 := name_Split.mono_l k
    · intro y0 y1 y2 y3
      unfold name_Split.j0
      repeat' first
      | (with_reducible exact ih0 _ _ _ _)
      | (with_reducible exact LeO.refl _)
      | (with_reducible exact LeO.none _)
      | (with_reducible refine LeO.ite ?_ ?_)
      | (with_reducible refine LeO.bind ?_ (fun _ => ?_))
      | exact ih0 _ _ _ _
      | exact LeO.none _
      | refine LeO.ite ?_ ?_
      | refine LeO.bind ?_ (fun _ => ?_)
theorem name_Split.mono : ∀ a0 k, LeO (name_Split.f k a0) (name_Split.f (k + 1) a0) := by
  intro a0 k
  have ih0 := name_Split.mono_l k
  unfold name_Split.f
  repeat' first
      | (with_reducible exact ih0 _ _ _ _)
      | (with_reducible exact LeO.refl _)
      | (with_reducible exact LeO.none _)
      | (with_reducible refine LeO.ite ?_ ?_)
      | (with_reducible refine LeO.bind ?_ (fun _ => ?_))
      | exact ih0 _ _ _ _
      | exact LeO.none _
      | refine LeO.ite ?_ ?_
      | refine LeO.bind ?_ (fun _ => ?_)

/-! ### name_Check: function 19 -/
def name_Check.f (k : Nat) (a0 : ByteArray) : Option (Int) := (name_Split.f k a0).bind fun bt108 => (some bt108.2.2)
theorem name_Check.mono : ∀ a0 k, LeO (name_Check.f k a0) (name_Check.f (k + 1) a0) := by
  intro a0 k
  unfold name_Check.f
  repeat' first
      | (with_reducible exact name_Split.mono _ _)
      | (with_reducible exact LeO.refl _)
      | (with_reducible exact LeO.none _)
      | (with_reducible refine LeO.ite ?_ ?_)
      | (with_reducible refine LeO.bind ?_ (fun _ => ?_))
      | exact name_Split.mono _ _
      | exact LeO.none _
      | refine LeO.ite ?_ ?_
      | refine LeO.bind ?_ (fun _ => ?_)

/-! ### gate_zero: function 20 -/
def gate_zero.f (a0_0 : ByteArray) (a0_1 : Int) (a0_2 : Int) : Option (Bool) := if a0_1 = 0 then (some true) else (some (a0_2 == 0))

-- NOT PRINTED: function 34 (gate_Bind)

-- NOT PRINTED: function 23 (gate_Table_find)

-- NOT PRINTED: function 32 (gate_Table_of_1)

/-! ### gate_Table_of: function 21 -/
def gate_Table_of.f (s0_0 : AR51) (a1 : ByteArray) : Option (Int × AR51) := (gt_of.f s0_0 a1).bind fun bt114 => (some (bt114.1, bt114.2))

-- NOT PRINTED: function 33 (gate_Table_owned_1)

/-! ### gate_Table_owned: function 22 -/
def gate_Table_owned.f (s0_0 : AR51) (a1 : Int) : Option (Bool × AR51) := (gt_owned.f s0_0 a1).bind fun bt118 => (some (decide (bt118.1 ≥ 0), bt118.2))

/-! ### gate_Table_Open_1: function 24 -/
def gate_Table_Open_1.f (a0_0 : ByteArray) (a0_1 : Int) (a0_2 : Int) : Option (Bool) := some (a0_0.toList == ([] : List UInt8) && (a0_1 == 0 && (a0_2 == 0)))

/-! ### gate_Table_Open: function 9 -/
def gate_Table_Open.j0 : Nat → Bool → AR51 → ByteArray → Int → Int → Option (Int × Int × AR51)
  | 0, _, _, _, _, _ => none
  | k + 1, x18, x1000, x122000, x122001, x122002 => if x18 = true then (some (0, 9, x1000)) else ((gt_free.f x1000).bind fun bt128 => (if bt128.1 < 0 then (some (0, 28, bt128.2)) else (if 0 ≤ bt128.1 then (if bt128.1 < 8 then (some (bt128.1, 0, (AR51.up bt128.2 bt128.1 (⟨x122000, x122001, x122002⟩ : S31)))) else (none)) else (none))))
def gate_Table_Open.f (k : Nat) (s0_0 : AR51) (a1_0 : ByteArray) (a1_1 : Int) (a1_2 : Int) : Option (Int × Int × AR51) := (name_Check.f k a1_0).bind fun t122 => (if t122 = 0 then ((gate_zero.f a1_0 a1_1 a1_2).bind fun t123 => (if t123 = true then (some (0, 2, s0_0)) else ((gate_Table_of.f s0_0 a1_0).bind fun bt124 => (if bt124.1 ≥ 0 then (gate_Table_Open.j0 k true bt124.2 a1_0 a1_1 a1_2) else ((gate_Table_owned.f bt124.2 a1_1).bind fun bt126 => (gate_Table_Open.j0 k bt126.1 bt126.2 a1_0 a1_1 a1_2)))))) else (some (0, 6, s0_0)))
theorem gate_Table_Open.mono_l : ∀ k, (∀ y0 y1 y2 y3 y4, LeO (gate_Table_Open.j0 k y0 y1 y2 y3 y4) (gate_Table_Open.j0 (k + 1) y0 y1 y2 y3 y4))
  | 0 => fun _ _ _ _ _ r h => by simp [gate_Table_Open.j0] at h
  | k + 1 => by
    have ih0 := gate_Table_Open.mono_l k
    · intro y0 y1 y2 y3 y4
      unfold gate_Table_Open.j0
      repeat' first
      | (with_reducible exact ih0 _ _ _ _ _)
      | (with_reducible exact name_Check.mono _ _)
      | (with_reducible exact LeO.refl _)
      | (with_reducible exact LeO.none _)
      | (with_reducible refine LeO.ite ?_ ?_)
      | (with_reducible refine LeO.bind ?_ (fun _ => ?_))
      | exact ih0 _ _ _ _ _
      | exact name_Check.mono _ _
      | exact LeO.none _
      | refine LeO.ite ?_ ?_
      | refine LeO.bind ?_ (fun _ => ?_)
theorem gate_Table_Open.mono : ∀ a0 a1 a2 a3 k, LeO (gate_Table_Open.f k a0 a1 a2 a3) (gate_Table_Open.f (k + 1) a0 a1 a2 a3) := by
  intro a0 a1 a2 a3 k
  have ih0 := gate_Table_Open.mono_l k
  unfold gate_Table_Open.f
  repeat' first
      | (with_reducible exact ih0 _ _ _ _ _)
      | (with_reducible exact name_Check.mono _ _)
      | (with_reducible exact LeO.refl _)
      | (with_reducible exact LeO.none _)
      | (with_reducible refine LeO.ite ?_ ?_)
      | (with_reducible refine LeO.bind ?_ (fun _ => ?_))
      | exact ih0 _ _ _ _ _
      | exact name_Check.mono _ _
      | exact LeO.none _
      | refine LeO.ite ?_ ?_
      | refine LeO.bind ?_ (fun _ => ?_)

/-! ### gate_Table_Find: function 13 -/
def gate_Table_Find.f (s0_0 : AR51) (a1 : ByteArray) : Option (Int × ByteArray × Int × Int × Int × AR51) := (gate_Table_of.f s0_0 a1).bind fun bt131 => (if bt131.1 < 0 then (some (0, (⟨#[]⟩ : ByteArray), 0, 0, 8, bt131.2)) else (if 0 ≤ bt131.1 then (if bt131.1 < 8 then (some (bt131.1, (AR51.rd bt131.2 bt131.1).f0, (AR51.rd bt131.2 bt131.1).f1, (AR51.rd bt131.2 bt131.1).f2, 0, bt131.2)) else (none)) else (none)))
def gate_Table_Find.T6 : Bool × List (List Nat × List Nat) := (true, [([], []), ([], []), ([], []), ([1], [1]), ([3], [3]), ([4, 2], [2, 4]), ([5], [5]), ([0, 0], [0]), ([6, 7, 0, 1, 2, 3, 4, 5, 6, 7], [6]), ([8, 0, 1, 2, 3, 4, 5, 6, 7, 8], [])])
def gate_Table_Find.B6 : List Nat := [0, 0, 0, 2, 10, 30, 62, 1, 255, 511]
theorem gate_Table_Find.tab6 : rtab .any (opsOf Tryd.f13 6) = gate_Table_Find.T6 := by kernel_rfl
theorem gate_Table_Find.bits6 : waitsOk gate_Table_Find.T6.2 gate_Table_Find.B6 = true := by kernel_rfl

/-! ### gate_Table_Close: function 10 -/
def gate_Table_Close.f (s0_0 : AR51) (a1 : ByteArray) : Option (Int × ByteArray × Int × Int × Int × AR51) := (gate_Table_Find.f s0_0 a1).bind fun bt134 => (if bt134.2.2.2.2.1 = 0 then (if 0 ≤ bt134.1 then (if bt134.1 < 8 then (some (bt134.1, bt134.2.1, bt134.2.2.1, bt134.2.2.2.1, bt134.2.2.2.2.1, (AR51.up bt134.2.2.2.2.2 bt134.1 (⟨(⟨#[]⟩ : ByteArray), 0, 0⟩ : S31)))) else (none)) else (none)) else (some (bt134.1, bt134.2.1, bt134.2.2.1, bt134.2.2.2.1, bt134.2.2.2.2.1, bt134.2.2.2.2.2)))

/-! ### gate_Table_Free: function 11 -/
def gate_Table_Free.l0 : Nat → Int → AR51 → Int → AR51 → Option (Int × AR51)
  | 0, _, _, _, _ => none
  | k + 1, x3, x11, x12, x1000 => if x12 < 8 then (if 0 ≤ x12 then (if ((((AR51.rd x11 x12).f0).toList) == ([] : List UInt8) && (((AR51.rd x11 x12).f1) == 0 && (((AR51.rd x11 x12).f2) == 0))) = true then (gate_Table_Free.l0 k (wrap64 (x3 + 1)) x11 (wrap64 (x12 + 1)) x1000) else (gate_Table_Free.l0 k x3 x11 (wrap64 (x12 + 1)) x1000)) else (none)) else (some (x3, x1000))
def gate_Table_Free.f (k : Nat) (s0_0 : AR51) : Option (Int × AR51) := gate_Table_Free.l0 k 0 s0_0 0 s0_0
theorem gate_Table_Free.mono_l : ∀ k, (∀ y0 y1 y2 y3, LeO (gate_Table_Free.l0 k y0 y1 y2 y3) (gate_Table_Free.l0 (k + 1) y0 y1 y2 y3))
  | 0 => fun _ _ _ _ r h => by simp [gate_Table_Free.l0] at h
  | k + 1 => by
    have ih0 := gate_Table_Free.mono_l k
    · intro y0 y1 y2 y3
      unfold gate_Table_Free.l0
      repeat' first
      | (with_reducible exact ih0 _ _ _ _)
      | (with_reducible exact LeO.refl _)
      | (with_reducible exact LeO.none _)
      | (with_reducible refine LeO.ite ?_ ?_)
      | (with_reducible refine LeO.bind ?_ (fun _ => ?_))
      | exact ih0 _ _ _ _
      | exact LeO.none _
      | refine LeO.ite ?_ ?_
      | refine LeO.bind ?_ (fun _ => ?_)
theorem gate_Table_Free.mono : ∀ a0 k, LeO (gate_Table_Free.f k a0) (gate_Table_Free.f (k + 1) a0) := by
  intro a0 k
  have ih0 := gate_Table_Free.mono_l k
  unfold gate_Table_Free.f
  repeat' first
      | (with_reducible exact ih0 _ _ _ _)
      | (with_reducible exact LeO.refl _)
      | (with_reducible exact LeO.none _)
      | (with_reducible refine LeO.ite ?_ ?_)
      | (with_reducible refine LeO.bind ?_ (fun _ => ?_))
      | exact ih0 _ _ _ _
      | exact LeO.none _
      | refine LeO.ite ?_ ?_
      | refine LeO.bind ?_ (fun _ => ?_)

/-! ### gate_Table_Turn: function 18 -/
def gate_Table_Turn.j0 : Nat → Bool → AR51 → ByteArray → Int → Int → Option (Int × ByteArray × Int × Int × Int × AR51)
  | 0, _, _, _, _, _ => none
  | k + 1, x13, x1000, x143000, x143001, x143002 => if x13 = true then (some (0, (⟨#[]⟩ : ByteArray), 0, 0, 2, x1000)) else ((gate_Table_of.f x1000 x143000).bind fun bt145 => (if bt145.1 < 0 then (some (0, (⟨#[]⟩ : ByteArray), 0, 0, 8, bt145.2)) else ((gate_Table_owned.f bt145.2 x143001).bind fun bt147 => (if bt147.1 = true then (some (0, (⟨#[]⟩ : ByteArray), 0, 0, 9, bt147.2)) else (if 0 ≤ bt145.1 then (if bt145.1 < 8 then (some (bt145.1, (AR51.rd bt147.2 bt145.1).f0, (AR51.rd bt147.2 bt145.1).f1, (AR51.rd bt147.2 bt145.1).f2, 0, (AR51.up bt147.2 bt145.1 (⟨x143000, x143001, x143002⟩ : S31)))) else (none)) else (none))))))
def gate_Table_Turn.f (k : Nat) (s0_0 : AR51) (a1_0 : ByteArray) (a1_1 : Int) (a1_2 : Int) : Option (Int × ByteArray × Int × Int × Int × AR51) := (gate_zero.f a1_0 a1_1 a1_2).bind fun t144 => (gate_Table_Turn.j0 k t144 s0_0 a1_0 a1_1 a1_2)
theorem gate_Table_Turn.mono_l : ∀ k, (∀ y0 y1 y2 y3 y4, LeO (gate_Table_Turn.j0 k y0 y1 y2 y3 y4) (gate_Table_Turn.j0 (k + 1) y0 y1 y2 y3 y4))
  | 0 => fun _ _ _ _ _ r h => by simp [gate_Table_Turn.j0] at h
  | k + 1 => by
    have ih0 := gate_Table_Turn.mono_l k
    · intro y0 y1 y2 y3 y4
      unfold gate_Table_Turn.j0
      repeat' first
      | (with_reducible exact ih0 _ _ _ _ _)
      | (with_reducible exact LeO.refl _)
      | (with_reducible exact LeO.none _)
      | (with_reducible refine LeO.ite ?_ ?_)
      | (with_reducible refine LeO.bind ?_ (fun _ => ?_))
      | exact ih0 _ _ _ _ _
      | exact LeO.none _
      | refine LeO.ite ?_ ?_
      | refine LeO.bind ?_ (fun _ => ?_)
theorem gate_Table_Turn.mono : ∀ a0 a1 a2 a3 k, LeO (gate_Table_Turn.f k a0 a1 a2 a3) (gate_Table_Turn.f (k + 1) a0 a1 a2 a3) := by
  intro a0 a1 a2 a3 k
  have ih0 := gate_Table_Turn.mono_l k
  unfold gate_Table_Turn.f
  repeat' first
      | (with_reducible exact ih0 _ _ _ _ _)
      | (with_reducible exact LeO.refl _)
      | (with_reducible exact LeO.none _)
      | (with_reducible refine LeO.ite ?_ ?_)
      | (with_reducible refine LeO.bind ?_ (fun _ => ?_))
      | exact ih0 _ _ _ _ _
      | exact LeO.none _
      | refine LeO.ite ?_ ?_
      | refine LeO.bind ?_ (fun _ => ?_)

/-! ### budwoodlaw18_awake: function 12 -/
def budwoodlaw18_awake.j0 : Nat → Bool → Option (Bool)
  | 0, _ => none
  | k + 1, x0 => some x0
def budwoodlaw18_awake.f (k : Nat)  : Option (Bool) := (gate_New.f).bind fun t150 => ((gate_Table_Open.f k t150 (⟨#[109]⟩ : ByteArray) 1 80).bind fun bt152 => ((gate_Table_Open.f k bt152.2.2 (⟨#[110]⟩ : ByteArray) 2 96).bind fun bt155 => ((gate_Table_Turn.f k bt155.2.2 (⟨#[109]⟩ : ByteArray) 3 160).bind fun bt158 => (if bt152.1 = 0 then (if bt155.1 = 1 then (if bt158.1 = 0 then (if bt152.2.1 = 0 then (if bt155.2.1 = 0 then (if bt158.2.2.2.2.1 = 0 then (if (bt158.2.1.toList == ([109] : List UInt8) && (bt158.2.2.1 == 1 && (bt158.2.2.2.1 == 80))) = true then ((gate_Table_Free.f k bt158.2.2.2.2.2).bind fun bt165 => (if bt165.1 = 6 then (budwoodlaw18_awake.j0 k true) else (budwoodlaw18_awake.j0 k false))) else (budwoodlaw18_awake.j0 k false)) else (budwoodlaw18_awake.j0 k false)) else (budwoodlaw18_awake.j0 k false)) else (budwoodlaw18_awake.j0 k false)) else (budwoodlaw18_awake.j0 k false)) else (budwoodlaw18_awake.j0 k false)) else (budwoodlaw18_awake.j0 k false)))))
theorem budwoodlaw18_awake.mono_l : ∀ k, (∀ y0, LeO (budwoodlaw18_awake.j0 k y0) (budwoodlaw18_awake.j0 (k + 1) y0))
  | 0 => fun _ r h => by simp [budwoodlaw18_awake.j0] at h
  | k + 1 => by
    have ih0 := budwoodlaw18_awake.mono_l k
    · intro y0
      unfold budwoodlaw18_awake.j0
      repeat' first
      | (with_reducible exact ih0 _)
      | (with_reducible exact gate_Table_Free.mono _ _)
      | (with_reducible exact gate_Table_Open.mono _ _ _ _ _)
      | (with_reducible exact gate_Table_Turn.mono _ _ _ _ _)
      | (with_reducible exact LeO.refl _)
      | (with_reducible exact LeO.none _)
      | (with_reducible refine LeO.ite ?_ ?_)
      | (with_reducible refine LeO.bind ?_ (fun _ => ?_))
      | exact ih0 _
      | exact gate_Table_Free.mono _ _
      | exact gate_Table_Open.mono _ _ _ _ _
      | exact gate_Table_Turn.mono _ _ _ _ _
      | exact LeO.none _
      | refine LeO.ite ?_ ?_
      | refine LeO.bind ?_ (fun _ => ?_)
theorem budwoodlaw18_awake.mono : ∀ k, LeO (budwoodlaw18_awake.f k ) (budwoodlaw18_awake.f (k + 1) ) := by
  intro  k
  have ih0 := budwoodlaw18_awake.mono_l k
  unfold budwoodlaw18_awake.f
  repeat' first
      | (with_reducible exact ih0 _)
      | (with_reducible exact gate_Table_Free.mono _ _)
      | (with_reducible exact gate_Table_Open.mono _ _ _ _ _)
      | (with_reducible exact gate_Table_Turn.mono _ _ _ _ _)
      | (with_reducible exact LeO.refl _)
      | (with_reducible exact LeO.none _)
      | (with_reducible refine LeO.ite ?_ ?_)
      | (with_reducible refine LeO.bind ?_ (fun _ => ?_))
      | exact ih0 _
      | exact gate_Table_Free.mono _ _
      | exact gate_Table_Open.mono _ _ _ _ _
      | exact gate_Table_Turn.mono _ _ _ _ _
      | exact LeO.none _
      | refine LeO.ite ?_ ?_
      | refine LeO.bind ?_ (fun _ => ?_)

/-! ### budwoodlaw18_GateFull: function 3 -/
mutual
def budwoodlaw18_GateFull.l0 : Nat → Int → Int → AR51 → Option (Bool)
  | 0, _, _, _ => none
  | k + 1, x0, x4, x169000 => if x4 < 8 then ((gate_Table_Open.f k x169000 (strOfNums (([(wrap64 (97 + x4)) % 256] : List Int))) (IntKind.u16.wrap (wrap64 (1 + x4))) 80).bind fun bt172 => (if bt172.1 = x4 then (if bt172.2.1 = 0 then (budwoodlaw18_GateFull.l0 k x0 (wrap64 (x4 + 1)) bt172.2.2) else (some false)) else (some false))) else ((gate_Table_Open.f k x169000 (⟨#[122]⟩ : ByteArray) 99 80).bind fun bt175 => ((gate_Table_Close.f bt175.2.2 (strOfNums (([(wrap64 (97 + (Int.tmod (wrap64 (x0)) 8))) % 256] : List Int)))).bind fun bt181 => ((gate_Table_Open.f k bt181.2.2.2.2.2 (⟨#[122]⟩ : ByteArray) 99 80).bind fun bt188 => (budwoodlaw18_GateFull.j1 k bt175.2.1 (Int.tmod (wrap64 (x0)) 8) bt181.1 bt181.2.2.2.2.1 bt188.1 bt188.2.1 bt188.2.2 bt181.2.1 bt181.2.2.1 bt181.2.2.2.1))))
def budwoodlaw18_GateFull.j1 : Nat → Int → Int → Int → Int → Int → Int → AR51 → ByteArray → Int → Int → Option (Bool)
  | 0, _, _, _, _, _, _, _, _, _, _ => none
  | k + 1, x8, x9, x10, x12, x13, x14, x169000, x188000, x188001, x188002 => if x8 = 28 then (if x12 = 0 then (if x10 = x9 then (if x188001 = (IntKind.u16.wrap (wrap64 (1 + x9))) then (if x13 = x9 then (if x14 = 0 then ((gate_Table_Free.f k x169000).bind fun bt191 => (if bt191.1 = 0 then ((budwoodlaw18_awake.f k).bind fun t193 => (some t193)) else (some false))) else (some false)) else (some false)) else (some false)) else (some false)) else (some false)) else (some false)
end
def budwoodlaw18_GateFull.f (k : Nat) (a0 : Int) : Option (Bool) := (gate_New.f).bind fun t167 => (budwoodlaw18_GateFull.l0 k a0 0 t167)
theorem budwoodlaw18_GateFull.mono_l : ∀ k, (∀ y0 y1 y2, LeO (budwoodlaw18_GateFull.l0 k y0 y1 y2) (budwoodlaw18_GateFull.l0 (k + 1) y0 y1 y2)) ∧ (∀ y0 y1 y2 y3 y4 y5 y6 y7 y8 y9, LeO (budwoodlaw18_GateFull.j1 k y0 y1 y2 y3 y4 y5 y6 y7 y8 y9) (budwoodlaw18_GateFull.j1 (k + 1) y0 y1 y2 y3 y4 y5 y6 y7 y8 y9))
  | 0 => ⟨fun _ _ _ r h => by simp [budwoodlaw18_GateFull.l0] at h, fun _ _ _ _ _ _ _ _ _ _ r h => by simp [budwoodlaw18_GateFull.j1] at h⟩
  | k + 1 => by
    obtain ⟨ih0, ih1⟩ := budwoodlaw18_GateFull.mono_l k
    refine ⟨?_, ?_⟩
    · intro y0 y1 y2
      unfold budwoodlaw18_GateFull.l0
      repeat' first
      | (with_reducible exact ih0 _ _ _)
      | (with_reducible exact ih1 _ _ _ _ _ _ _ _ _ _)
      | (with_reducible exact budwoodlaw18_awake.mono _)
      | (with_reducible exact gate_Table_Free.mono _ _)
      | (with_reducible exact gate_Table_Open.mono _ _ _ _ _)
      | (with_reducible exact LeO.refl _)
      | (with_reducible exact LeO.none _)
      | (with_reducible refine LeO.ite ?_ ?_)
      | (with_reducible refine LeO.bind ?_ (fun _ => ?_))
      | exact ih0 _ _ _
      | exact ih1 _ _ _ _ _ _ _ _ _ _
      | exact budwoodlaw18_awake.mono _
      | exact gate_Table_Free.mono _ _
      | exact gate_Table_Open.mono _ _ _ _ _
      | exact LeO.none _
      | refine LeO.ite ?_ ?_
      | refine LeO.bind ?_ (fun _ => ?_)
    · intro y0 y1 y2 y3 y4 y5 y6 y7 y8 y9
      unfold budwoodlaw18_GateFull.j1
      repeat' first
      | (with_reducible exact ih0 _ _ _)
      | (with_reducible exact ih1 _ _ _ _ _ _ _ _ _ _)
      | (with_reducible exact budwoodlaw18_awake.mono _)
      | (with_reducible exact gate_Table_Free.mono _ _)
      | (with_reducible exact gate_Table_Open.mono _ _ _ _ _)
      | (with_reducible exact LeO.refl _)
      | (with_reducible exact LeO.none _)
      | (with_reducible refine LeO.ite ?_ ?_)
      | (with_reducible refine LeO.bind ?_ (fun _ => ?_))
      | exact ih0 _ _ _
      | exact ih1 _ _ _ _ _ _ _ _ _ _
      | exact budwoodlaw18_awake.mono _
      | exact gate_Table_Free.mono _ _
      | exact gate_Table_Open.mono _ _ _ _ _
      | exact LeO.none _
      | refine LeO.ite ?_ ?_
      | refine LeO.bind ?_ (fun _ => ?_)
theorem budwoodlaw18_GateFull.mono : ∀ a0 k, LeO (budwoodlaw18_GateFull.f k a0) (budwoodlaw18_GateFull.f (k + 1) a0) := by
  intro a0 k
  obtain ⟨ih0, ih1⟩ := budwoodlaw18_GateFull.mono_l k
  unfold budwoodlaw18_GateFull.f
  repeat' first
      | (with_reducible exact ih0 _ _ _)
      | (with_reducible exact ih1 _ _ _ _ _ _ _ _ _ _)
      | (with_reducible exact budwoodlaw18_awake.mono _)
      | (with_reducible exact gate_Table_Free.mono _ _)
      | (with_reducible exact gate_Table_Open.mono _ _ _ _ _)
      | (with_reducible exact LeO.refl _)
      | (with_reducible exact LeO.none _)
      | (with_reducible refine LeO.ite ?_ ?_)
      | (with_reducible refine LeO.bind ?_ (fun _ => ?_))
      | exact ih0 _ _ _
      | exact ih1 _ _ _ _ _ _ _ _ _ _
      | exact budwoodlaw18_awake.mono _
      | exact gate_Table_Free.mono _ _
      | exact gate_Table_Open.mono _ _ _ _ _
      | exact LeO.none _
      | refine LeO.ite ?_ ?_
      | refine LeO.bind ?_ (fun _ => ?_)

/-! ### budwoodref18_Table_place: function 35 -/
def budwoodref18_Table_place.l0 : Nat → ByteArray → Int → AR39 → Option (Int)
  | 0, _, _, _ => none
  | k + 1, x1, x5, x195000 => if x5 < 8 then (if 0 ≤ x5 then (if ((AR39.rd x195000 x5).f1) = 0 then (budwoodref18_Table_place.l0 k x1 (wrap64 (x5 + 1)) x195000) else (if ((AR39.rd x195000 x5).f0).toList = x1.toList then (some x5) else (budwoodref18_Table_place.l0 k x1 (wrap64 (x5 + 1)) x195000))) else (none)) else (some (-1))
def budwoodref18_Table_place.f (k : Nat) (a0_0 : AR39) (a1 : ByteArray) : Option (Int) := budwoodref18_Table_place.l0 k a1 0 a0_0
theorem budwoodref18_Table_place.mono_l : ∀ k, (∀ y0 y1 y2, LeO (budwoodref18_Table_place.l0 k y0 y1 y2) (budwoodref18_Table_place.l0 (k + 1) y0 y1 y2))
  | 0 => fun _ _ _ r h => by simp [budwoodref18_Table_place.l0] at h
  | k + 1 => by
    have ih0 := budwoodref18_Table_place.mono_l k
    · intro y0 y1 y2
      unfold budwoodref18_Table_place.l0
      repeat' first
      | (with_reducible exact ih0 _ _ _)
      | (with_reducible exact LeO.refl _)
      | (with_reducible exact LeO.none _)
      | (with_reducible refine LeO.ite ?_ ?_)
      | (with_reducible refine LeO.bind ?_ (fun _ => ?_))
      | exact ih0 _ _ _
      | exact LeO.none _
      | refine LeO.ite ?_ ?_
      | refine LeO.bind ?_ (fun _ => ?_)
theorem budwoodref18_Table_place.mono : ∀ a0 a1 k, LeO (budwoodref18_Table_place.f k a0 a1) (budwoodref18_Table_place.f (k + 1) a0 a1) := by
  intro a0 a1 k
  have ih0 := budwoodref18_Table_place.mono_l k
  unfold budwoodref18_Table_place.f
  repeat' first
      | (with_reducible exact ih0 _ _ _)
      | (with_reducible exact LeO.refl _)
      | (with_reducible exact LeO.none _)
      | (with_reducible refine LeO.ite ?_ ?_)
      | (with_reducible refine LeO.bind ?_ (fun _ => ?_))
      | exact ih0 _ _ _
      | exact LeO.none _
      | refine LeO.ite ?_ ?_
      | refine LeO.bind ?_ (fun _ => ?_)

/-! ### budwoodref18_Table_owned: function 36 -/
def budwoodref18_Table_owned.l0 : Nat → Int → Int → AR39 → Option (Bool)
  | 0, _, _, _ => none
  | k + 1, x1, x5, x196000 => if x5 < 8 then (if 0 ≤ x5 then (if ((AR39.rd x196000 x5).f1) = x1 then (some true) else (budwoodref18_Table_owned.l0 k x1 (wrap64 (x5 + 1)) x196000)) else (none)) else (some false)
def budwoodref18_Table_owned.f (k : Nat) (a0_0 : AR39) (a1 : Int) : Option (Bool) := budwoodref18_Table_owned.l0 k a1 0 a0_0
theorem budwoodref18_Table_owned.mono_l : ∀ k, (∀ y0 y1 y2, LeO (budwoodref18_Table_owned.l0 k y0 y1 y2) (budwoodref18_Table_owned.l0 (k + 1) y0 y1 y2))
  | 0 => fun _ _ _ r h => by simp [budwoodref18_Table_owned.l0] at h
  | k + 1 => by
    have ih0 := budwoodref18_Table_owned.mono_l k
    · intro y0 y1 y2
      unfold budwoodref18_Table_owned.l0
      repeat' first
      | (with_reducible exact ih0 _ _ _)
      | (with_reducible exact LeO.refl _)
      | (with_reducible exact LeO.none _)
      | (with_reducible refine LeO.ite ?_ ?_)
      | (with_reducible refine LeO.bind ?_ (fun _ => ?_))
      | exact ih0 _ _ _
      | exact LeO.none _
      | refine LeO.ite ?_ ?_
      | refine LeO.bind ?_ (fun _ => ?_)
theorem budwoodref18_Table_owned.mono : ∀ a0 a1 k, LeO (budwoodref18_Table_owned.f k a0 a1) (budwoodref18_Table_owned.f (k + 1) a0 a1) := by
  intro a0 a1 k
  have ih0 := budwoodref18_Table_owned.mono_l k
  unfold budwoodref18_Table_owned.f
  repeat' first
      | (with_reducible exact ih0 _ _ _)
      | (with_reducible exact LeO.refl _)
      | (with_reducible exact LeO.none _)
      | (with_reducible refine LeO.ite ?_ ?_)
      | (with_reducible refine LeO.bind ?_ (fun _ => ?_))
      | exact ih0 _ _ _
      | exact LeO.none _
      | refine LeO.ite ?_ ?_
      | refine LeO.bind ?_ (fun _ => ?_)

/-! ### budwoodref18_Table_Turn: function 25 -/
def budwoodref18_Table_Turn.j0 : Nat → Int → Bool → AR39 → ByteArray → Int → Int → Option (AR39 × Int × ByteArray × Int × Int × Int)
  | 0, _, _, _, _, _, _ => none
  | k + 1, x8, x14, x197000, x198000, x198001, x198002 => if x14 = true then (some (x197000, 0, (⟨#[]⟩ : ByteArray), 0, 0, 2)) else (if x8 < 0 then (some (x197000, 0, (⟨#[]⟩ : ByteArray), 0, 0, 8)) else ((budwoodref18_Table_owned.f k x197000 x198001).bind fun t201 => (if t201 = true then (some (x197000, 0, (⟨#[]⟩ : ByteArray), 0, 0, 9)) else (if 0 ≤ x8 then (if x8 < 8 then (some ((AR39.up x197000 x8 (⟨x198000, x198001, x198002⟩ : S38)), x8, (AR39.rd x197000 x8).f0, (AR39.rd x197000 x8).f1, (AR39.rd x197000 x8).f2, 0)) else (none)) else (none)))))
def budwoodref18_Table_Turn.f (k : Nat) (a0_0 : AR39) (a1_0 : ByteArray) (a1_1 : Int) (a1_2 : Int) : Option (AR39 × Int × ByteArray × Int × Int × Int) := (budwoodref18_Table_place.f k a0_0 a1_0).bind fun t200 => (if a1_1 = 0 then (budwoodref18_Table_Turn.j0 k t200 true a0_0 a1_0 a1_1 a1_2) else (budwoodref18_Table_Turn.j0 k t200 (a1_2 == 0) a0_0 a1_0 a1_1 a1_2))
theorem budwoodref18_Table_Turn.mono_l : ∀ k, (∀ y0 y1 y2 y3 y4 y5, LeO (budwoodref18_Table_Turn.j0 k y0 y1 y2 y3 y4 y5) (budwoodref18_Table_Turn.j0 (k + 1) y0 y1 y2 y3 y4 y5))
  | 0 => fun _ _ _ _ _ _ r h => by simp [budwoodref18_Table_Turn.j0] at h
  | k + 1 => by
    have ih0 := budwoodref18_Table_Turn.mono_l k
    · intro y0 y1 y2 y3 y4 y5
      unfold budwoodref18_Table_Turn.j0
      repeat' first
      | (with_reducible exact ih0 _ _ _ _ _ _)
      | (with_reducible exact budwoodref18_Table_owned.mono _ _ _)
      | (with_reducible exact budwoodref18_Table_place.mono _ _ _)
      | (with_reducible exact LeO.refl _)
      | (with_reducible exact LeO.none _)
      | (with_reducible refine LeO.ite ?_ ?_)
      | (with_reducible refine LeO.bind ?_ (fun _ => ?_))
      | exact ih0 _ _ _ _ _ _
      | exact budwoodref18_Table_owned.mono _ _ _
      | exact budwoodref18_Table_place.mono _ _ _
      | exact LeO.none _
      | refine LeO.ite ?_ ?_
      | refine LeO.bind ?_ (fun _ => ?_)
theorem budwoodref18_Table_Turn.mono : ∀ a0 a1 a2 a3 k, LeO (budwoodref18_Table_Turn.f k a0 a1 a2 a3) (budwoodref18_Table_Turn.f (k + 1) a0 a1 a2 a3) := by
  intro a0 a1 a2 a3 k
  have ih0 := budwoodref18_Table_Turn.mono_l k
  unfold budwoodref18_Table_Turn.f
  repeat' first
      | (with_reducible exact ih0 _ _ _ _ _ _)
      | (with_reducible exact budwoodref18_Table_owned.mono _ _ _)
      | (with_reducible exact budwoodref18_Table_place.mono _ _ _)
      | (with_reducible exact LeO.refl _)
      | (with_reducible exact LeO.none _)
      | (with_reducible refine LeO.ite ?_ ?_)
      | (with_reducible refine LeO.bind ?_ (fun _ => ?_))
      | exact ih0 _ _ _ _ _ _
      | exact budwoodref18_Table_owned.mono _ _ _
      | exact budwoodref18_Table_place.mono _ _ _
      | exact LeO.none _
      | refine LeO.ite ?_ ?_
      | refine LeO.bind ?_ (fun _ => ?_)

/-! ### budwoodref18_Table_Find: function 27 -/
def budwoodref18_Table_Find.f (k : Nat) (a0_0 : AR39) (a1 : ByteArray) : Option (Int × ByteArray × Int × Int × Int) := (budwoodref18_Table_place.f k a0_0 a1).bind fun t205 => (if t205 < 0 then (some (0, (⟨#[]⟩ : ByteArray), 0, 0, 8)) else (if 0 ≤ t205 then (if t205 < 8 then (some (t205, (AR39.rd a0_0 t205).f0, (AR39.rd a0_0 t205).f1, (AR39.rd a0_0 t205).f2, 0)) else (none)) else (none)))
theorem budwoodref18_Table_Find.mono : ∀ a0 a1 k, LeO (budwoodref18_Table_Find.f k a0 a1) (budwoodref18_Table_Find.f (k + 1) a0 a1) := by
  intro a0 a1 k
  unfold budwoodref18_Table_Find.f
  repeat' first
      | (with_reducible exact budwoodref18_Table_place.mono _ _ _)
      | (with_reducible exact LeO.refl _)
      | (with_reducible exact LeO.none _)
      | (with_reducible refine LeO.ite ?_ ?_)
      | (with_reducible refine LeO.bind ?_ (fun _ => ?_))
      | exact budwoodref18_Table_place.mono _ _ _
      | exact LeO.none _
      | refine LeO.ite ?_ ?_
      | refine LeO.bind ?_ (fun _ => ?_)
def budwoodref18_Table_Find.T4 : Bool × List (List Nat × List Nat) := (true, [([], []), ([], []), ([], []), ([2, 1], [1, 2]), ([3], [3]), ([0, 0], [0]), ([4, 5, 0, 1, 2, 3, 4, 5], [4]), ([6, 0, 1, 2, 3, 4, 5, 6], [])])
def budwoodref18_Table_Find.B4 : List Nat := [0, 0, 0, 6, 14, 1, 63, 127]
theorem budwoodref18_Table_Find.tab4 : rtab .any (opsOf Tryd.f27 4) = budwoodref18_Table_Find.T4 := by kernel_rfl
theorem budwoodref18_Table_Find.bits4 : waitsOk budwoodref18_Table_Find.T4.2 budwoodref18_Table_Find.B4 = true := by kernel_rfl

/-! ### budwoodref18_Table_Close: function 26 -/
def budwoodref18_Table_Close.f (k : Nat) (a0_0 : AR39) (a1 : ByteArray) : Option (AR39 × Int × ByteArray × Int × Int × Int) := (budwoodref18_Table_Find.f k a0_0 a1).bind fun bt209 => (if bt209.2.2.2.2 = 0 then (if 0 ≤ bt209.1 then (if bt209.1 < 8 then (some ((AR39.up a0_0 bt209.1 (⟨(⟨#[]⟩ : ByteArray), 0, 0⟩ : S38)), bt209.1, bt209.2.1, bt209.2.2.1, bt209.2.2.2.1, bt209.2.2.2.2)) else (none)) else (none)) else (some (a0_0, bt209.1, bt209.2.1, bt209.2.2.1, bt209.2.2.2.1, bt209.2.2.2.2)))
theorem budwoodref18_Table_Close.mono : ∀ a0 a1 k, LeO (budwoodref18_Table_Close.f k a0 a1) (budwoodref18_Table_Close.f (k + 1) a0 a1) := by
  intro a0 a1 k
  unfold budwoodref18_Table_Close.f
  repeat' first
      | (with_reducible exact budwoodref18_Table_Find.mono _ _ _)
      | (with_reducible exact LeO.refl _)
      | (with_reducible exact LeO.none _)
      | (with_reducible refine LeO.ite ?_ ?_)
      | (with_reducible refine LeO.bind ?_ (fun _ => ?_))
      | exact budwoodref18_Table_Find.mono _ _ _
      | exact LeO.none _
      | refine LeO.ite ?_ ?_
      | refine LeO.bind ?_ (fun _ => ?_)
def budwoodref18_Table_Close.T4 : Bool × List (List Nat × List Nat) := (true, [([], []), ([], []), ([], []), ([], []), ([0, 0], [0]), ([1, 4, 0, 1, 4], [1]), ([2, 5, 0, 1, 2, 4, 5], [2]), ([3, 6, 0, 1, 2, 3, 4, 5, 6], [3])])
def budwoodref18_Table_Close.B4 : List Nat := [0, 0, 0, 0, 1, 19, 55, 127]
theorem budwoodref18_Table_Close.tab4 : rtab .any (opsOf Tryd.f26 4) = budwoodref18_Table_Close.T4 := by kernel_rfl
theorem budwoodref18_Table_Close.bits4 : waitsOk budwoodref18_Table_Close.T4.2 budwoodref18_Table_Close.B4 = true := by kernel_rfl

/-! ### budwoodref02_parts: function 42 -/
def budwoodref02_parts.l0 : Nat → ByteArray → Int → Option (ByteArray × ByteArray × Bool)
  | 0, _, _ => none
  | k + 1, x0, x5 => if x5 < (x0.size : Int) then (if 0 ≤ x5 then (if (bt x0 x5) = 64 then (if x5 ≤ (x0.size : Int) then (if 0 ≤ (wrap64 (x5 + 1)) then (if (wrap64 (x5 + 1)) ≤ (x0.size : Int) then (some (x0.extract 0 (x5 : Int).toNat, x0.extract ((wrap64 (x5 + 1)) : Int).toNat x0.size, true)) else (none)) else (none)) else (none)) else (budwoodref02_parts.l0 k x0 (wrap64 (x5 + 1)))) else (none)) else (some (x0, (⟨#[]⟩ : ByteArray), false))
def budwoodref02_parts.f (k : Nat) (a0 : ByteArray) : Option (ByteArray × ByteArray × Bool) := budwoodref02_parts.l0 k a0 0
theorem budwoodref02_parts.mono_l : ∀ k, (∀ y0 y1, LeO (budwoodref02_parts.l0 k y0 y1) (budwoodref02_parts.l0 (k + 1) y0 y1))
  | 0 => fun _ _ r h => by simp [budwoodref02_parts.l0] at h
  | k + 1 => by
    have ih0 := budwoodref02_parts.mono_l k
    · intro y0 y1
      unfold budwoodref02_parts.l0
      repeat' first
      | (with_reducible exact ih0 _ _)
      | (with_reducible exact LeO.refl _)
      | (with_reducible exact LeO.none _)
      | (with_reducible refine LeO.ite ?_ ?_)
      | (with_reducible refine LeO.bind ?_ (fun _ => ?_))
      | exact ih0 _ _
      | exact LeO.none _
      | refine LeO.ite ?_ ?_
      | refine LeO.bind ?_ (fun _ => ?_)
theorem budwoodref02_parts.mono : ∀ a0 k, LeO (budwoodref02_parts.f k a0) (budwoodref02_parts.f (k + 1) a0) := by
  intro a0 k
  have ih0 := budwoodref02_parts.mono_l k
  unfold budwoodref02_parts.f
  repeat' first
      | (with_reducible exact ih0 _ _)
      | (with_reducible exact LeO.refl _)
      | (with_reducible exact LeO.none _)
      | (with_reducible refine LeO.ite ?_ ?_)
      | (with_reducible refine LeO.bind ?_ (fun _ => ?_))
      | exact ih0 _ _
      | exact LeO.none _
      | refine LeO.ite ?_ ?_
      | refine LeO.bind ?_ (fun _ => ?_)

/-! ### budwoodref02_more: function 59 -/
def budwoodref02_more.f (a0 : ByteArray) (a1 : Int) : Option (Bool) := if a1 < (a0.size : Int) then (if 0 ≤ a1 then (some ((Go.bits .and .u8 (bt a0 a1) 192) == 128)) else (none)) else (some false)

/-! ### budwoodref02_One: function 54 -/
mutual
def budwoodref02_One.j0 : Nat → ByteArray → Int → Bool → Option (Int × Int)
  | 0, _, _, _ => none
  | k + 1, x0, x4, x14 => if x14 = true then (if 1 < (x0.size : Int) then (some (Go.bits .or .i64 (wrap64 ((Go.bits .and .i64 x4 31) * 64)) (wrap64 (Go.bits .and .u8 (bt x0 1) 63)), 2)) else (none)) else (if x4 ≥ 224 then (if x4 ≤ 239 then ((budwoodref02_more.f x0 1).bind fun t216 => (if t216 = true then ((budwoodref02_more.f x0 2).bind fun t217 => (budwoodref02_One.j1 k x0 x4 t217)) else (budwoodref02_One.j1 k x0 x4 false))) else (budwoodref02_One.j1 k x0 x4 false)) else (budwoodref02_One.j1 k x0 x4 false))
def budwoodref02_One.j1 : Nat → ByteArray → Int → Bool → Option (Int × Int)
  | 0, _, _, _ => none
  | k + 1, x0, x4, x33 => if x33 = true then (if 1 < (x0.size : Int) then (if 2 < (x0.size : Int) then (if (Go.bits .or .i64 (Go.bits .or .i64 (wrap64 ((Go.bits .and .i64 x4 15) * 4096)) (wrap64 ((wrap64 (Go.bits .and .u8 (bt x0 1) 63)) * 64))) (wrap64 (Go.bits .and .u8 (bt x0 2) 63))) ≥ 2048 then (if (Go.bits .or .i64 (Go.bits .or .i64 (wrap64 ((Go.bits .and .i64 x4 15) * 4096)) (wrap64 ((wrap64 (Go.bits .and .u8 (bt x0 1) 63)) * 64))) (wrap64 (Go.bits .and .u8 (bt x0 2) 63))) < 55296 then (some (Go.bits .or .i64 (Go.bits .or .i64 (wrap64 ((Go.bits .and .i64 x4 15) * 4096)) (wrap64 ((wrap64 (Go.bits .and .u8 (bt x0 1) 63)) * 64))) (wrap64 (Go.bits .and .u8 (bt x0 2) 63)), 3)) else (if (Go.bits .or .i64 (Go.bits .or .i64 (wrap64 ((Go.bits .and .i64 x4 15) * 4096)) (wrap64 ((wrap64 (Go.bits .and .u8 (bt x0 1) 63)) * 64))) (wrap64 (Go.bits .and .u8 (bt x0 2) 63))) > 57343 then (some (Go.bits .or .i64 (Go.bits .or .i64 (wrap64 ((Go.bits .and .i64 x4 15) * 4096)) (wrap64 ((wrap64 (Go.bits .and .u8 (bt x0 1) 63)) * 64))) (wrap64 (Go.bits .and .u8 (bt x0 2) 63)), 3)) else (some ((-1), 1)))) else (some ((-1), 1))) else (none)) else (none)) else (if x4 ≥ 240 then (if x4 ≤ 244 then ((budwoodref02_more.f x0 1).bind fun t218 => (if t218 = true then ((budwoodref02_more.f x0 2).bind fun t219 => (if t219 = true then ((budwoodref02_more.f x0 3).bind fun t220 => (budwoodref02_One.j2 k x0 x4 t220)) else (budwoodref02_One.j2 k x0 x4 false))) else (budwoodref02_One.j2 k x0 x4 false))) else (budwoodref02_One.j2 k x0 x4 false)) else (budwoodref02_One.j2 k x0 x4 false))
def budwoodref02_One.j2 : Nat → ByteArray → Int → Bool → Option (Int × Int)
  | 0, _, _, _ => none
  | k + 1, x0, x4, x73 => if x73 = true then (if 1 < (x0.size : Int) then (if 2 < (x0.size : Int) then (if 3 < (x0.size : Int) then (if (Go.bits .or .i64 (Go.bits .or .i64 (Go.bits .or .i64 (wrap64 ((Go.bits .and .i64 x4 7) * 262144)) (wrap64 ((wrap64 (Go.bits .and .u8 (bt x0 1) 63)) * 4096))) (wrap64 ((wrap64 (Go.bits .and .u8 (bt x0 2) 63)) * 64))) (wrap64 (Go.bits .and .u8 (bt x0 3) 63))) ≥ 65536 then (if (Go.bits .or .i64 (Go.bits .or .i64 (Go.bits .or .i64 (wrap64 ((Go.bits .and .i64 x4 7) * 262144)) (wrap64 ((wrap64 (Go.bits .and .u8 (bt x0 1) 63)) * 4096))) (wrap64 ((wrap64 (Go.bits .and .u8 (bt x0 2) 63)) * 64))) (wrap64 (Go.bits .and .u8 (bt x0 3) 63))) ≤ 1114111 then (some (Go.bits .or .i64 (Go.bits .or .i64 (Go.bits .or .i64 (wrap64 ((Go.bits .and .i64 x4 7) * 262144)) (wrap64 ((wrap64 (Go.bits .and .u8 (bt x0 1) 63)) * 4096))) (wrap64 ((wrap64 (Go.bits .and .u8 (bt x0 2) 63)) * 64))) (wrap64 (Go.bits .and .u8 (bt x0 3) 63)), 4)) else (some ((-1), 1))) else (some ((-1), 1))) else (none)) else (none)) else (none)) else (some ((-1), 1))
end
def budwoodref02_One.f (k : Nat) (a0 : ByteArray) : Option (Int × Int) := if 0 < (a0.size : Int) then (if (wrap64 (bt a0 0)) < 128 then (some (wrap64 (bt a0 0), 1)) else (if (wrap64 (bt a0 0)) ≥ 194 then (if (wrap64 (bt a0 0)) ≤ 223 then ((budwoodref02_more.f a0 1).bind fun t215 => (budwoodref02_One.j0 k a0 (wrap64 (bt a0 0)) t215)) else (budwoodref02_One.j0 k a0 (wrap64 (bt a0 0)) false)) else (budwoodref02_One.j0 k a0 (wrap64 (bt a0 0)) false))) else (none)
theorem budwoodref02_One.mono_l : ∀ k, (∀ y0 y1 y2, LeO (budwoodref02_One.j0 k y0 y1 y2) (budwoodref02_One.j0 (k + 1) y0 y1 y2)) ∧ (∀ y0 y1 y2, LeO (budwoodref02_One.j1 k y0 y1 y2) (budwoodref02_One.j1 (k + 1) y0 y1 y2)) ∧ (∀ y0 y1 y2, LeO (budwoodref02_One.j2 k y0 y1 y2) (budwoodref02_One.j2 (k + 1) y0 y1 y2))
  | 0 => ⟨fun _ _ _ r h => by simp [budwoodref02_One.j0] at h, fun _ _ _ r h => by simp [budwoodref02_One.j1] at h, fun _ _ _ r h => by simp [budwoodref02_One.j2] at h⟩
  | k + 1 => by
    obtain ⟨ih0, ih1, ih2⟩ := budwoodref02_One.mono_l k
    refine ⟨?_, ?_, ?_⟩
    · intro y0 y1 y2
      unfold budwoodref02_One.j0
      repeat' first
      | (with_reducible exact ih0 _ _ _)
      | (with_reducible exact ih1 _ _ _)
      | (with_reducible exact ih2 _ _ _)
      | (with_reducible exact LeO.refl _)
      | (with_reducible exact LeO.none _)
      | (with_reducible refine LeO.ite ?_ ?_)
      | (with_reducible refine LeO.bind ?_ (fun _ => ?_))
      | exact ih0 _ _ _
      | exact ih1 _ _ _
      | exact ih2 _ _ _
      | exact LeO.none _
      | refine LeO.ite ?_ ?_
      | refine LeO.bind ?_ (fun _ => ?_)
    · intro y0 y1 y2
      unfold budwoodref02_One.j1
      repeat' first
      | (with_reducible exact ih0 _ _ _)
      | (with_reducible exact ih1 _ _ _)
      | (with_reducible exact ih2 _ _ _)
      | (with_reducible exact LeO.refl _)
      | (with_reducible exact LeO.none _)
      | (with_reducible refine LeO.ite ?_ ?_)
      | (with_reducible refine LeO.bind ?_ (fun _ => ?_))
      | exact ih0 _ _ _
      | exact ih1 _ _ _
      | exact ih2 _ _ _
      | exact LeO.none _
      | refine LeO.ite ?_ ?_
      | refine LeO.bind ?_ (fun _ => ?_)
    · intro y0 y1 y2
      unfold budwoodref02_One.j2
      repeat' first
      | (with_reducible exact ih0 _ _ _)
      | (with_reducible exact ih1 _ _ _)
      | (with_reducible exact ih2 _ _ _)
      | (with_reducible exact LeO.refl _)
      | (with_reducible exact LeO.none _)
      | (with_reducible refine LeO.ite ?_ ?_)
      | (with_reducible refine LeO.bind ?_ (fun _ => ?_))
      | exact ih0 _ _ _
      | exact ih1 _ _ _
      | exact ih2 _ _ _
      | exact LeO.none _
      | refine LeO.ite ?_ ?_
      | refine LeO.bind ?_ (fun _ => ?_)
theorem budwoodref02_One.mono : ∀ a0 k, LeO (budwoodref02_One.f k a0) (budwoodref02_One.f (k + 1) a0) := by
  intro a0 k
  obtain ⟨ih0, ih1, ih2⟩ := budwoodref02_One.mono_l k
  unfold budwoodref02_One.f
  repeat' first
      | (with_reducible exact ih0 _ _ _)
      | (with_reducible exact ih1 _ _ _)
      | (with_reducible exact ih2 _ _ _)
      | (with_reducible exact LeO.refl _)
      | (with_reducible exact LeO.none _)
      | (with_reducible refine LeO.ite ?_ ?_)
      | (with_reducible refine LeO.bind ?_ (fun _ => ?_))
      | exact ih0 _ _ _
      | exact ih1 _ _ _
      | exact ih2 _ _ _
      | exact LeO.none _
      | refine LeO.ite ?_ ?_
      | refine LeO.bind ?_ (fun _ => ?_)

/-! ### budwoodref02_List: function 49 -/
def budwoodref02_List.l0 : Nat → ByteArray → List Int → Option (List Int)
  | 0, _, _ => none
  | k + 1, x0, x3 => if (x0.size : Int) > 0 then ((budwoodref02_One.f k x0).bind fun bt221 => (if x3.length < 17592186044416 then (if 0 ≤ bt221.2 then (if bt221.2 ≤ (x0.size : Int) then (budwoodref02_List.l0 k (x0.extract (bt221.2 : Int).toNat x0.size) (x3 ++ [bt221.1])) else (none)) else (none)) else (none))) else (some x3)
def budwoodref02_List.f (k : Nat) (a0 : ByteArray) : Option (List Int) := budwoodref02_List.l0 k a0 ([] : List Int)
theorem budwoodref02_List.mono_l : ∀ k, (∀ y0 y1, LeO (budwoodref02_List.l0 k y0 y1) (budwoodref02_List.l0 (k + 1) y0 y1))
  | 0 => fun _ _ r h => by simp [budwoodref02_List.l0] at h
  | k + 1 => by
    have ih0 := budwoodref02_List.mono_l k
    · intro y0 y1
      unfold budwoodref02_List.l0
      repeat' first
      | (with_reducible exact ih0 _ _)
      | (with_reducible exact budwoodref02_One.mono _ _)
      | (with_reducible exact LeO.refl _)
      | (with_reducible exact LeO.none _)
      | (with_reducible refine LeO.ite ?_ ?_)
      | (with_reducible refine LeO.bind ?_ (fun _ => ?_))
      | exact ih0 _ _
      | exact budwoodref02_One.mono _ _
      | exact LeO.none _
      | refine LeO.ite ?_ ?_
      | refine LeO.bind ?_ (fun _ => ?_)
theorem budwoodref02_List.mono : ∀ a0 k, LeO (budwoodref02_List.f k a0) (budwoodref02_List.f (k + 1) a0) := by
  intro a0 k
  have ih0 := budwoodref02_List.mono_l k
  unfold budwoodref02_List.f
  repeat' first
      | (with_reducible exact ih0 _ _)
      | (with_reducible exact budwoodref02_One.mono _ _)
      | (with_reducible exact LeO.refl _)
      | (with_reducible exact LeO.none _)
      | (with_reducible refine LeO.ite ?_ ?_)
      | (with_reducible refine LeO.bind ?_ (fun _ => ?_))
      | exact ih0 _ _
      | exact budwoodref02_One.mono _ _
      | exact LeO.none _
      | refine LeO.ite ?_ ?_
      | refine LeO.bind ?_ (fun _ => ?_)

/-! ### budwoodref02_letter: function 50 -/
def budwoodref02_letter.f (a0 : Int) : Option (Bool) := if a0 ≥ 97 then (if a0 ≤ 122 then (some true) else (if a0 ≥ 65 then (if a0 ≤ 90 then (some true) else (some (decide (a0 ≥ 128)))) else (some (decide (a0 ≥ 128))))) else (if a0 ≥ 65 then (if a0 ≤ 90 then (some true) else (some (decide (a0 ≥ 128)))) else (some (decide (a0 ≥ 128))))

/-! ### budwoodref02_digit: function 51 -/
def budwoodref02_digit.f (a0 : Int) : Option (Bool) := if a0 ≥ 48 then (some (decide (a0 ≤ 57))) else (some false)

/-! ### budwoodref02_stem: function 43 -/
mutual
def budwoodref02_stem.j0 : Nat → List Int → Bool → Option (Bool)
  | 0, _, _ => none
  | k + 1, x3, x16 => if x16 = true then (some false) else (budwoodref02_stem.l0 k x3 1)
def budwoodref02_stem.l0 : Nat → List Int → Int → Option (Bool)
  | 0, _, _ => none
  | k + 1, x3, x4 => if x4 < (x3.length : Int) then (if 0 ≤ x4 then ((budwoodref02_letter.f (rd x3 x4)).bind fun t232 => (if t232 = true then (budwoodref02_stem.l0 k x3 (wrap64 (x4 + 1))) else ((budwoodref02_digit.f (rd x3 x4)).bind fun t234 => (if t234 = true then (budwoodref02_stem.l0 k x3 (wrap64 (x4 + 1))) else (if (rd x3 x4) = 95 then (budwoodref02_stem.l0 k x3 (wrap64 (x4 + 1))) else (some false)))))) else (none)) else (some true)
end
def budwoodref02_stem.f (k : Nat) (a0 : ByteArray) : Option (Bool) := (budwoodref02_List.f k a0).bind fun t226 => (if (t226.length : Int) = 0 then (budwoodref02_stem.j0 k t226 true) else (if 0 < (t226.length : Int) then ((budwoodref02_letter.f (rd t226 0)).bind fun t230 => (budwoodref02_stem.j0 k t226 (!t230))) else (none)))
theorem budwoodref02_stem.mono_l : ∀ k, (∀ y0 y1, LeO (budwoodref02_stem.j0 k y0 y1) (budwoodref02_stem.j0 (k + 1) y0 y1)) ∧ (∀ y0 y1, LeO (budwoodref02_stem.l0 k y0 y1) (budwoodref02_stem.l0 (k + 1) y0 y1))
  | 0 => ⟨fun _ _ r h => by simp [budwoodref02_stem.j0] at h, fun _ _ r h => by simp [budwoodref02_stem.l0] at h⟩
  | k + 1 => by
    obtain ⟨ih0, ih1⟩ := budwoodref02_stem.mono_l k
    refine ⟨?_, ?_⟩
    · intro y0 y1
      unfold budwoodref02_stem.j0
      repeat' first
      | (with_reducible exact ih0 _ _)
      | (with_reducible exact ih1 _ _)
      | (with_reducible exact budwoodref02_List.mono _ _)
      | (with_reducible exact LeO.refl _)
      | (with_reducible exact LeO.none _)
      | (with_reducible refine LeO.ite ?_ ?_)
      | (with_reducible refine LeO.bind ?_ (fun _ => ?_))
      | exact ih0 _ _
      | exact ih1 _ _
      | exact budwoodref02_List.mono _ _
      | exact LeO.none _
      | refine LeO.ite ?_ ?_
      | refine LeO.bind ?_ (fun _ => ?_)
    · intro y0 y1
      unfold budwoodref02_stem.l0
      repeat' first
      | (with_reducible exact ih0 _ _)
      | (with_reducible exact ih1 _ _)
      | (with_reducible exact budwoodref02_List.mono _ _)
      | (with_reducible exact LeO.refl _)
      | (with_reducible exact LeO.none _)
      | (with_reducible refine LeO.ite ?_ ?_)
      | (with_reducible refine LeO.bind ?_ (fun _ => ?_))
      | exact ih0 _ _
      | exact ih1 _ _
      | exact budwoodref02_List.mono _ _
      | exact LeO.none _
      | refine LeO.ite ?_ ?_
      | refine LeO.bind ?_ (fun _ => ?_)
theorem budwoodref02_stem.mono : ∀ a0 k, LeO (budwoodref02_stem.f k a0) (budwoodref02_stem.f (k + 1) a0) := by
  intro a0 k
  obtain ⟨ih0, ih1⟩ := budwoodref02_stem.mono_l k
  unfold budwoodref02_stem.f
  repeat' first
      | (with_reducible exact ih0 _ _)
      | (with_reducible exact ih1 _ _)
      | (with_reducible exact budwoodref02_List.mono _ _)
      | (with_reducible exact LeO.refl _)
      | (with_reducible exact LeO.none _)
      | (with_reducible refine LeO.ite ?_ ?_)
      | (with_reducible refine LeO.bind ?_ (fun _ => ?_))
      | exact ih0 _ _
      | exact ih1 _ _
      | exact budwoodref02_List.mono _ _
      | exact LeO.none _
      | refine LeO.ite ?_ ?_
      | refine LeO.bind ?_ (fun _ => ?_)

/-! ### budwoodref02_version: function 44 -/
mutual
def budwoodref02_version.j0 : Nat → ByteArray → Bool → Option (Int)
  | 0, _, _ => none
  | k + 1, x0, x17 => if x17 = true then (some 0) else (budwoodref02_version.l0 k x0 0 0)
def budwoodref02_version.l0 : Nat → ByteArray → Int → Int → Option (Int)
  | 0, _, _, _ => none
  | k + 1, x0, x3, x4 => if x4 < (x0.size : Int) then (if 0 ≤ x4 then ((budwoodref02_digit.f (wrap64 (bt x0 x4))).bind fun t236 => (if t236 = true then (budwoodref02_version.l0 k x0 (wrap64 ((wrap64 ((wrap64 (10 * x3)) + (wrap64 (bt x0 x4)))) - 48)) (wrap64 (x4 + 1))) else (some 0))) else (none)) else (some x3)
end
def budwoodref02_version.f (k : Nat) (a0 : ByteArray) : Option (Int) := if (a0.size : Int) < 1 then (budwoodref02_version.j0 k a0 true) else (if (a0.size : Int) > 3 then (budwoodref02_version.j0 k a0 true) else (if 0 < (a0.size : Int) then (budwoodref02_version.j0 k a0 ((bt a0 0) == 48)) else (none)))
theorem budwoodref02_version.mono_l : ∀ k, (∀ y0 y1, LeO (budwoodref02_version.j0 k y0 y1) (budwoodref02_version.j0 (k + 1) y0 y1)) ∧ (∀ y0 y1 y2, LeO (budwoodref02_version.l0 k y0 y1 y2) (budwoodref02_version.l0 (k + 1) y0 y1 y2))
  | 0 => ⟨fun _ _ r h => by simp [budwoodref02_version.j0] at h, fun _ _ _ r h => by simp [budwoodref02_version.l0] at h⟩
  | k + 1 => by
    obtain ⟨ih0, ih1⟩ := budwoodref02_version.mono_l k
    refine ⟨?_, ?_⟩
    · intro y0 y1
      unfold budwoodref02_version.j0
      repeat' first
      | (with_reducible exact ih0 _ _)
      | (with_reducible exact ih1 _ _ _)
      | (with_reducible exact LeO.refl _)
      | (with_reducible exact LeO.none _)
      | (with_reducible refine LeO.ite ?_ ?_)
      | (with_reducible refine LeO.bind ?_ (fun _ => ?_))
      | exact ih0 _ _
      | exact ih1 _ _ _
      | exact LeO.none _
      | refine LeO.ite ?_ ?_
      | refine LeO.bind ?_ (fun _ => ?_)
    · intro y0 y1 y2
      unfold budwoodref02_version.l0
      repeat' first
      | (with_reducible exact ih0 _ _)
      | (with_reducible exact ih1 _ _ _)
      | (with_reducible exact LeO.refl _)
      | (with_reducible exact LeO.none _)
      | (with_reducible refine LeO.ite ?_ ?_)
      | (with_reducible refine LeO.bind ?_ (fun _ => ?_))
      | exact ih0 _ _
      | exact ih1 _ _ _
      | exact LeO.none _
      | refine LeO.ite ?_ ?_
      | refine LeO.bind ?_ (fun _ => ?_)
theorem budwoodref02_version.mono : ∀ a0 k, LeO (budwoodref02_version.f k a0) (budwoodref02_version.f (k + 1) a0) := by
  intro a0 k
  obtain ⟨ih0, ih1⟩ := budwoodref02_version.mono_l k
  unfold budwoodref02_version.f
  repeat' first
      | (with_reducible exact ih0 _ _)
      | (with_reducible exact ih1 _ _ _)
      | (with_reducible exact LeO.refl _)
      | (with_reducible exact LeO.none _)
      | (with_reducible refine LeO.ite ?_ ?_)
      | (with_reducible refine LeO.bind ?_ (fun _ => ?_))
      | exact ih0 _ _
      | exact ih1 _ _ _
      | exact LeO.none _
      | refine LeO.ite ?_ ?_
      | refine LeO.bind ?_ (fun _ => ?_)

/-! ### budwoodref02_Runes: function 45 -/
def budwoodref02_Runes.f (k : Nat) (a0 : ByteArray) : Option (Int) := (budwoodref02_List.f k a0).bind fun t237 => (some (t237.length : Int))
theorem budwoodref02_Runes.mono : ∀ a0 k, LeO (budwoodref02_Runes.f k a0) (budwoodref02_Runes.f (k + 1) a0) := by
  intro a0 k
  unfold budwoodref02_Runes.f
  repeat' first
      | (with_reducible exact budwoodref02_List.mono _ _)
      | (with_reducible exact LeO.refl _)
      | (with_reducible exact LeO.none _)
      | (with_reducible refine LeO.ite ?_ ?_)
      | (with_reducible refine LeO.bind ?_ (fun _ => ?_))
      | exact budwoodref02_List.mono _ _
      | exact LeO.none _
      | refine LeO.ite ?_ ?_
      | refine LeO.bind ?_ (fun _ => ?_)

/-! ### budwoodref02_Check: function 37 -/
def budwoodref02_Check.j0 : Nat → ByteArray → Bool → Option (Int)
  | 0, _, _ => none
  | k + 1, x0, x22 => if x22 = true then (some 6) else ((budwoodref02_Runes.f k x0).bind fun t245 => (if t245 > 24 then (some 5) else (some 0)))
def budwoodref02_Check.f (k : Nat) (a0 : ByteArray) : Option (Int) := (budwoodref02_parts.f k a0).bind fun bt240 => ((budwoodref02_stem.f k bt240.1).bind fun t243 => (if t243 = true then (if bt240.2.2 = true then ((budwoodref02_version.f k bt240.2.1).bind fun t244 => (budwoodref02_Check.j0 k a0 (t244 == 0))) else (budwoodref02_Check.j0 k a0 false)) else (budwoodref02_Check.j0 k a0 true)))
theorem budwoodref02_Check.mono_l : ∀ k, (∀ y0 y1, LeO (budwoodref02_Check.j0 k y0 y1) (budwoodref02_Check.j0 (k + 1) y0 y1))
  | 0 => fun _ _ r h => by simp [budwoodref02_Check.j0] at h
  | k + 1 => by
    have ih0 := budwoodref02_Check.mono_l k
    · intro y0 y1
      unfold budwoodref02_Check.j0
      repeat' first
      | (with_reducible exact ih0 _ _)
      | (with_reducible exact budwoodref02_Runes.mono _ _)
      | (with_reducible exact budwoodref02_parts.mono _ _)
      | (with_reducible exact budwoodref02_stem.mono _ _)
      | (with_reducible exact budwoodref02_version.mono _ _)
      | (with_reducible exact LeO.refl _)
      | (with_reducible exact LeO.none _)
      | (with_reducible refine LeO.ite ?_ ?_)
      | (with_reducible refine LeO.bind ?_ (fun _ => ?_))
      | exact ih0 _ _
      | exact budwoodref02_Runes.mono _ _
      | exact budwoodref02_parts.mono _ _
      | exact budwoodref02_stem.mono _ _
      | exact budwoodref02_version.mono _ _
      | exact LeO.none _
      | refine LeO.ite ?_ ?_
      | refine LeO.bind ?_ (fun _ => ?_)
theorem budwoodref02_Check.mono : ∀ a0 k, LeO (budwoodref02_Check.f k a0) (budwoodref02_Check.f (k + 1) a0) := by
  intro a0 k
  have ih0 := budwoodref02_Check.mono_l k
  unfold budwoodref02_Check.f
  repeat' first
      | (with_reducible exact ih0 _ _)
      | (with_reducible exact budwoodref02_Runes.mono _ _)
      | (with_reducible exact budwoodref02_parts.mono _ _)
      | (with_reducible exact budwoodref02_stem.mono _ _)
      | (with_reducible exact budwoodref02_version.mono _ _)
      | (with_reducible exact LeO.refl _)
      | (with_reducible exact LeO.none _)
      | (with_reducible refine LeO.ite ?_ ?_)
      | (with_reducible refine LeO.bind ?_ (fun _ => ?_))
      | exact ih0 _ _
      | exact budwoodref02_Runes.mono _ _
      | exact budwoodref02_parts.mono _ _
      | exact budwoodref02_stem.mono _ _
      | exact budwoodref02_version.mono _ _
      | exact LeO.none _
      | refine LeO.ite ?_ ?_
      | refine LeO.bind ?_ (fun _ => ?_)

/-! ### budwoodref18_Table_Open: function 28 -/
mutual
def budwoodref18_Table_Open.j0 : Nat → Bool → AR39 → ByteArray → Int → Int → Option (AR39 × Int × Int)
  | 0, _, _, _, _, _ => none
  | k + 1, x14, x247000, x248000, x248001, x248002 => if x14 = true then (some (x247000, 0, 2)) else ((budwoodref18_Table_place.f k x247000 x248000).bind fun t250 => (if t250 ≥ 0 then (some (x247000, 0, 9)) else ((budwoodref18_Table_owned.f k x247000 x248001).bind fun t251 => (if t251 = true then (some (x247000, 0, 9)) else (budwoodref18_Table_Open.l0 k 0 x247000 x248000 x248001 x248002)))))
def budwoodref18_Table_Open.l0 : Nat → Int → AR39 → ByteArray → Int → Int → Option (AR39 × Int × Int)
  | 0, _, _, _, _, _ => none
  | k + 1, x7, x247000, x248000, x248001, x248002 => if x7 < 8 then (if 0 ≤ x7 then (if ((AR39.rd x247000 x7).f1) = 0 then (some ((AR39.up x247000 x7 (⟨x248000, x248001, x248002⟩ : S38)), x7, 0)) else (budwoodref18_Table_Open.l0 k (wrap64 (x7 + 1)) x247000 x248000 x248001 x248002)) else (none)) else (some (x247000, 0, 28))
end
def budwoodref18_Table_Open.f (k : Nat) (a0_0 : AR39) (a1_0 : ByteArray) (a1_1 : Int) (a1_2 : Int) : Option (AR39 × Int × Int) := (budwoodref02_Check.f k a1_0).bind fun t249 => (if t249 = 0 then (if a1_1 = 0 then (budwoodref18_Table_Open.j0 k true a0_0 a1_0 a1_1 a1_2) else (budwoodref18_Table_Open.j0 k (a1_2 == 0) a0_0 a1_0 a1_1 a1_2)) else (some (a0_0, 0, 6)))
theorem budwoodref18_Table_Open.mono_l : ∀ k, (∀ y0 y1 y2 y3 y4, LeO (budwoodref18_Table_Open.j0 k y0 y1 y2 y3 y4) (budwoodref18_Table_Open.j0 (k + 1) y0 y1 y2 y3 y4)) ∧ (∀ y0 y1 y2 y3 y4, LeO (budwoodref18_Table_Open.l0 k y0 y1 y2 y3 y4) (budwoodref18_Table_Open.l0 (k + 1) y0 y1 y2 y3 y4))
  | 0 => ⟨fun _ _ _ _ _ r h => by simp [budwoodref18_Table_Open.j0] at h, fun _ _ _ _ _ r h => by simp [budwoodref18_Table_Open.l0] at h⟩
  | k + 1 => by
    obtain ⟨ih0, ih1⟩ := budwoodref18_Table_Open.mono_l k
    refine ⟨?_, ?_⟩
    · intro y0 y1 y2 y3 y4
      unfold budwoodref18_Table_Open.j0
      repeat' first
      | (with_reducible exact ih0 _ _ _ _ _)
      | (with_reducible exact ih1 _ _ _ _ _)
      | (with_reducible exact budwoodref02_Check.mono _ _)
      | (with_reducible exact budwoodref18_Table_owned.mono _ _ _)
      | (with_reducible exact budwoodref18_Table_place.mono _ _ _)
      | (with_reducible exact LeO.refl _)
      | (with_reducible exact LeO.none _)
      | (with_reducible refine LeO.ite ?_ ?_)
      | (with_reducible refine LeO.bind ?_ (fun _ => ?_))
      | exact ih0 _ _ _ _ _
      | exact ih1 _ _ _ _ _
      | exact budwoodref02_Check.mono _ _
      | exact budwoodref18_Table_owned.mono _ _ _
      | exact budwoodref18_Table_place.mono _ _ _
      | exact LeO.none _
      | refine LeO.ite ?_ ?_
      | refine LeO.bind ?_ (fun _ => ?_)
    · intro y0 y1 y2 y3 y4
      unfold budwoodref18_Table_Open.l0
      repeat' first
      | (with_reducible exact ih0 _ _ _ _ _)
      | (with_reducible exact ih1 _ _ _ _ _)
      | (with_reducible exact budwoodref02_Check.mono _ _)
      | (with_reducible exact budwoodref18_Table_owned.mono _ _ _)
      | (with_reducible exact budwoodref18_Table_place.mono _ _ _)
      | (with_reducible exact LeO.refl _)
      | (with_reducible exact LeO.none _)
      | (with_reducible refine LeO.ite ?_ ?_)
      | (with_reducible refine LeO.bind ?_ (fun _ => ?_))
      | exact ih0 _ _ _ _ _
      | exact ih1 _ _ _ _ _
      | exact budwoodref02_Check.mono _ _
      | exact budwoodref18_Table_owned.mono _ _ _
      | exact budwoodref18_Table_place.mono _ _ _
      | exact LeO.none _
      | refine LeO.ite ?_ ?_
      | refine LeO.bind ?_ (fun _ => ?_)
theorem budwoodref18_Table_Open.mono : ∀ a0 a1 a2 a3 k, LeO (budwoodref18_Table_Open.f k a0 a1 a2 a3) (budwoodref18_Table_Open.f (k + 1) a0 a1 a2 a3) := by
  intro a0 a1 a2 a3 k
  obtain ⟨ih0, ih1⟩ := budwoodref18_Table_Open.mono_l k
  unfold budwoodref18_Table_Open.f
  repeat' first
      | (with_reducible exact ih0 _ _ _ _ _)
      | (with_reducible exact ih1 _ _ _ _ _)
      | (with_reducible exact budwoodref02_Check.mono _ _)
      | (with_reducible exact budwoodref18_Table_owned.mono _ _ _)
      | (with_reducible exact budwoodref18_Table_place.mono _ _ _)
      | (with_reducible exact LeO.refl _)
      | (with_reducible exact LeO.none _)
      | (with_reducible refine LeO.ite ?_ ?_)
      | (with_reducible refine LeO.bind ?_ (fun _ => ?_))
      | exact ih0 _ _ _ _ _
      | exact ih1 _ _ _ _ _
      | exact budwoodref02_Check.mono _ _
      | exact budwoodref18_Table_owned.mono _ _ _
      | exact budwoodref18_Table_place.mono _ _ _
      | exact LeO.none _
      | refine LeO.ite ?_ ?_
      | refine LeO.bind ?_ (fun _ => ?_)

/-! ### budwoodlaw18_do: function 14 -/
mutual
def budwoodlaw18_do.j0 : Nat → Bool → AR51 → AR39 → Option (AR39 × Bool × AR51)
  | 0, _, _, _ => none
  | k + 1, x7, x1000, x255000 => some (x255000, x7, x1000)
def budwoodlaw18_do.j1 : Nat → Bool → AR51 → AR39 → Option (AR39 × Bool × AR51)
  | 0, _, _, _ => none
  | k + 1, x7, x1000, x255000 => some (x255000, x7, x1000)
def budwoodlaw18_do.j2 : Nat → Bool → AR51 → AR39 → Option (AR39 × Bool × AR51)
  | 0, _, _, _ => none
  | k + 1, x7, x1000, x255000 => some (x255000, x7, x1000)
def budwoodlaw18_do.j3 : Nat → Bool → AR51 → AR39 → Option (AR39 × Bool × AR51)
  | 0, _, _, _ => none
  | k + 1, x7, x1000, x255000 => some (x255000, x7, x1000)
end
def budwoodlaw18_do.f (k : Nat) (s0_0 : AR51) (a1_0 : AR39) (a2_0 : Int) (a2_1 : ByteArray) (a2_2 : Int) (a2_3 : Int) : Option (AR39 × Bool × AR51) := if (Int.tmod a2_0 5) = 2 then ((gate_Table_Turn.f k s0_0 a2_1 a2_2 a2_3).bind fun bt257 => ((budwoodref18_Table_Turn.f k a1_0 a2_1 a2_2 a2_3).bind fun bt263 => (if bt257.1 = bt263.2.1 then (if (bt257.2.1.toList == bt263.2.2.1.toList && (bt257.2.2.1 == bt263.2.2.2.1 && (bt257.2.2.2.1 == bt263.2.2.2.2.1))) = true then (budwoodlaw18_do.j0 k (bt257.2.2.2.2.1 == bt263.2.2.2.2.2) bt257.2.2.2.2.2 bt263.1) else (budwoodlaw18_do.j0 k false bt257.2.2.2.2.2 bt263.1)) else (budwoodlaw18_do.j0 k false bt257.2.2.2.2.2 bt263.1)))) else (if (Int.tmod a2_0 5) = 3 then ((gate_Table_Close.f s0_0 a2_1).bind fun bt269 => ((budwoodref18_Table_Close.f k a1_0 a2_1).bind fun bt275 => (if bt269.1 = bt275.2.1 then (if (bt269.2.1.toList == bt275.2.2.1.toList && (bt269.2.2.1 == bt275.2.2.2.1 && (bt269.2.2.2.1 == bt275.2.2.2.2.1))) = true then (budwoodlaw18_do.j1 k (bt269.2.2.2.2.1 == bt275.2.2.2.2.2) bt269.2.2.2.2.2 bt275.1) else (budwoodlaw18_do.j1 k false bt269.2.2.2.2.2 bt275.1)) else (budwoodlaw18_do.j1 k false bt269.2.2.2.2.2 bt275.1)))) else (if (Int.tmod a2_0 5) = 4 then ((gate_Table_Find.f s0_0 a2_1).bind fun bt281 => ((budwoodref18_Table_Find.f k a1_0 a2_1).bind fun bt287 => (if bt281.1 = bt287.1 then (if (bt281.2.1.toList == bt287.2.1.toList && (bt281.2.2.1 == bt287.2.2.1 && (bt281.2.2.2.1 == bt287.2.2.2.1))) = true then (budwoodlaw18_do.j2 k (bt281.2.2.2.2.1 == bt287.2.2.2.2) bt281.2.2.2.2.2 a1_0) else (budwoodlaw18_do.j2 k false bt281.2.2.2.2.2 a1_0)) else (budwoodlaw18_do.j2 k false bt281.2.2.2.2.2 a1_0)))) else ((gate_Table_Open.f k s0_0 a2_1 a2_2 a2_3).bind fun bt292 => ((budwoodref18_Table_Open.f k a1_0 a2_1 a2_2 a2_3).bind fun bt295 => (if bt292.1 = bt295.2.1 then (budwoodlaw18_do.j3 k (bt292.2.1 == bt295.2.2) bt292.2.2 bt295.1) else (budwoodlaw18_do.j3 k false bt292.2.2 bt295.1))))))
theorem budwoodlaw18_do.mono_l : ∀ k, (∀ y0 y1 y2, LeO (budwoodlaw18_do.j0 k y0 y1 y2) (budwoodlaw18_do.j0 (k + 1) y0 y1 y2)) ∧ (∀ y0 y1 y2, LeO (budwoodlaw18_do.j1 k y0 y1 y2) (budwoodlaw18_do.j1 (k + 1) y0 y1 y2)) ∧ (∀ y0 y1 y2, LeO (budwoodlaw18_do.j2 k y0 y1 y2) (budwoodlaw18_do.j2 (k + 1) y0 y1 y2)) ∧ (∀ y0 y1 y2, LeO (budwoodlaw18_do.j3 k y0 y1 y2) (budwoodlaw18_do.j3 (k + 1) y0 y1 y2))
  | 0 => ⟨fun _ _ _ r h => by simp [budwoodlaw18_do.j0] at h, fun _ _ _ r h => by simp [budwoodlaw18_do.j1] at h, fun _ _ _ r h => by simp [budwoodlaw18_do.j2] at h, fun _ _ _ r h => by simp [budwoodlaw18_do.j3] at h⟩
  | k + 1 => by
    obtain ⟨ih0, ih1, ih2, ih3⟩ := budwoodlaw18_do.mono_l k
    refine ⟨?_, ?_, ?_, ?_⟩
    · intro y0 y1 y2
      unfold budwoodlaw18_do.j0
      repeat' first
      | (with_reducible exact ih0 _ _ _)
      | (with_reducible exact ih1 _ _ _)
      | (with_reducible exact ih2 _ _ _)
      | (with_reducible exact ih3 _ _ _)
      | (with_reducible exact budwoodref18_Table_Close.mono _ _ _)
      | (with_reducible exact budwoodref18_Table_Find.mono _ _ _)
      | (with_reducible exact budwoodref18_Table_Open.mono _ _ _ _ _)
      | (with_reducible exact budwoodref18_Table_Turn.mono _ _ _ _ _)
      | (with_reducible exact gate_Table_Open.mono _ _ _ _ _)
      | (with_reducible exact gate_Table_Turn.mono _ _ _ _ _)
      | (with_reducible exact LeO.refl _)
      | (with_reducible exact LeO.none _)
      | (with_reducible refine LeO.ite ?_ ?_)
      | (with_reducible refine LeO.bind ?_ (fun _ => ?_))
      | exact ih0 _ _ _
      | exact ih1 _ _ _
      | exact ih2 _ _ _
      | exact ih3 _ _ _
      | exact budwoodref18_Table_Close.mono _ _ _
      | exact budwoodref18_Table_Find.mono _ _ _
      | exact budwoodref18_Table_Open.mono _ _ _ _ _
      | exact budwoodref18_Table_Turn.mono _ _ _ _ _
      | exact gate_Table_Open.mono _ _ _ _ _
      | exact gate_Table_Turn.mono _ _ _ _ _
      | exact LeO.none _
      | refine LeO.ite ?_ ?_
      | refine LeO.bind ?_ (fun _ => ?_)
    · intro y0 y1 y2
      unfold budwoodlaw18_do.j1
      repeat' first
      | (with_reducible exact ih0 _ _ _)
      | (with_reducible exact ih1 _ _ _)
      | (with_reducible exact ih2 _ _ _)
      | (with_reducible exact ih3 _ _ _)
      | (with_reducible exact budwoodref18_Table_Close.mono _ _ _)
      | (with_reducible exact budwoodref18_Table_Find.mono _ _ _)
      | (with_reducible exact budwoodref18_Table_Open.mono _ _ _ _ _)
      | (with_reducible exact budwoodref18_Table_Turn.mono _ _ _ _ _)
      | (with_reducible exact gate_Table_Open.mono _ _ _ _ _)
      | (with_reducible exact gate_Table_Turn.mono _ _ _ _ _)
      | (with_reducible exact LeO.refl _)
      | (with_reducible exact LeO.none _)
      | (with_reducible refine LeO.ite ?_ ?_)
      | (with_reducible refine LeO.bind ?_ (fun _ => ?_))
      | exact ih0 _ _ _
      | exact ih1 _ _ _
      | exact ih2 _ _ _
      | exact ih3 _ _ _
      | exact budwoodref18_Table_Close.mono _ _ _
      | exact budwoodref18_Table_Find.mono _ _ _
      | exact budwoodref18_Table_Open.mono _ _ _ _ _
      | exact budwoodref18_Table_Turn.mono _ _ _ _ _
      | exact gate_Table_Open.mono _ _ _ _ _
      | exact gate_Table_Turn.mono _ _ _ _ _
      | exact LeO.none _
      | refine LeO.ite ?_ ?_
      | refine LeO.bind ?_ (fun _ => ?_)
    · intro y0 y1 y2
      unfold budwoodlaw18_do.j2
      repeat' first
      | (with_reducible exact ih0 _ _ _)
      | (with_reducible exact ih1 _ _ _)
      | (with_reducible exact ih2 _ _ _)
      | (with_reducible exact ih3 _ _ _)
      | (with_reducible exact budwoodref18_Table_Close.mono _ _ _)
      | (with_reducible exact budwoodref18_Table_Find.mono _ _ _)
      | (with_reducible exact budwoodref18_Table_Open.mono _ _ _ _ _)
      | (with_reducible exact budwoodref18_Table_Turn.mono _ _ _ _ _)
      | (with_reducible exact gate_Table_Open.mono _ _ _ _ _)
      | (with_reducible exact gate_Table_Turn.mono _ _ _ _ _)
      | (with_reducible exact LeO.refl _)
      | (with_reducible exact LeO.none _)
      | (with_reducible refine LeO.ite ?_ ?_)
      | (with_reducible refine LeO.bind ?_ (fun _ => ?_))
      | exact ih0 _ _ _
      | exact ih1 _ _ _
      | exact ih2 _ _ _
      | exact ih3 _ _ _
      | exact budwoodref18_Table_Close.mono _ _ _
      | exact budwoodref18_Table_Find.mono _ _ _
      | exact budwoodref18_Table_Open.mono _ _ _ _ _
      | exact budwoodref18_Table_Turn.mono _ _ _ _ _
      | exact gate_Table_Open.mono _ _ _ _ _
      | exact gate_Table_Turn.mono _ _ _ _ _
      | exact LeO.none _
      | refine LeO.ite ?_ ?_
      | refine LeO.bind ?_ (fun _ => ?_)
    · intro y0 y1 y2
      unfold budwoodlaw18_do.j3
      repeat' first
      | (with_reducible exact ih0 _ _ _)
      | (with_reducible exact ih1 _ _ _)
      | (with_reducible exact ih2 _ _ _)
      | (with_reducible exact ih3 _ _ _)
      | (with_reducible exact budwoodref18_Table_Close.mono _ _ _)
      | (with_reducible exact budwoodref18_Table_Find.mono _ _ _)
      | (with_reducible exact budwoodref18_Table_Open.mono _ _ _ _ _)
      | (with_reducible exact budwoodref18_Table_Turn.mono _ _ _ _ _)
      | (with_reducible exact gate_Table_Open.mono _ _ _ _ _)
      | (with_reducible exact gate_Table_Turn.mono _ _ _ _ _)
      | (with_reducible exact LeO.refl _)
      | (with_reducible exact LeO.none _)
      | (with_reducible refine LeO.ite ?_ ?_)
      | (with_reducible refine LeO.bind ?_ (fun _ => ?_))
      | exact ih0 _ _ _
      | exact ih1 _ _ _
      | exact ih2 _ _ _
      | exact ih3 _ _ _
      | exact budwoodref18_Table_Close.mono _ _ _
      | exact budwoodref18_Table_Find.mono _ _ _
      | exact budwoodref18_Table_Open.mono _ _ _ _ _
      | exact budwoodref18_Table_Turn.mono _ _ _ _ _
      | exact gate_Table_Open.mono _ _ _ _ _
      | exact gate_Table_Turn.mono _ _ _ _ _
      | exact LeO.none _
      | refine LeO.ite ?_ ?_
      | refine LeO.bind ?_ (fun _ => ?_)
theorem budwoodlaw18_do.mono : ∀ a0 a1 a2 a3 a4 a5 k, LeO (budwoodlaw18_do.f k a0 a1 a2 a3 a4 a5) (budwoodlaw18_do.f (k + 1) a0 a1 a2 a3 a4 a5) := by
  intro a0 a1 a2 a3 a4 a5 k
  obtain ⟨ih0, ih1, ih2, ih3⟩ := budwoodlaw18_do.mono_l k
  unfold budwoodlaw18_do.f
  repeat' first
      | (with_reducible exact ih0 _ _ _)
      | (with_reducible exact ih1 _ _ _)
      | (with_reducible exact ih2 _ _ _)
      | (with_reducible exact ih3 _ _ _)
      | (with_reducible exact budwoodref18_Table_Close.mono _ _ _)
      | (with_reducible exact budwoodref18_Table_Find.mono _ _ _)
      | (with_reducible exact budwoodref18_Table_Open.mono _ _ _ _ _)
      | (with_reducible exact budwoodref18_Table_Turn.mono _ _ _ _ _)
      | (with_reducible exact gate_Table_Open.mono _ _ _ _ _)
      | (with_reducible exact gate_Table_Turn.mono _ _ _ _ _)
      | (with_reducible exact LeO.refl _)
      | (with_reducible exact LeO.none _)
      | (with_reducible refine LeO.ite ?_ ?_)
      | (with_reducible refine LeO.bind ?_ (fun _ => ?_))
      | exact ih0 _ _ _
      | exact ih1 _ _ _
      | exact ih2 _ _ _
      | exact ih3 _ _ _
      | exact budwoodref18_Table_Close.mono _ _ _
      | exact budwoodref18_Table_Find.mono _ _ _
      | exact budwoodref18_Table_Open.mono _ _ _ _ _
      | exact budwoodref18_Table_Turn.mono _ _ _ _ _
      | exact gate_Table_Open.mono _ _ _ _ _
      | exact gate_Table_Turn.mono _ _ _ _ _
      | exact LeO.none _
      | refine LeO.ite ?_ ?_
      | refine LeO.bind ?_ (fun _ => ?_)
def budwoodlaw18_do.T17 : Bool × List (List Nat × List Nat) := (true, [([], []), ([], []), ([], []), ([1, 2], [1, 2]), ([3], [3]), ([4], [4]), ([4], [4]), ([5, 6, 4], [4, 5, 6]), ([4, 7], [4, 7]), ([8, 4], [8]), ([9], [9]), ([9], [9]), ([10, 11, 9], [9, 10, 11]), ([9, 12], [9, 12]), ([0, 9, 0], [0]), ([13, 14, 0, 1, 2, 3, 4, 5, 6, 7, 8, 9, 10, 11, 12, 13, 14], [13])])
def budwoodlaw18_do.B17 : List Nat := [0, 0, 0, 6, 14, 30, 30, 126, 254, 510, 1022, 1022, 4094, 8190, 1023, 32767]
theorem budwoodlaw18_do.tab17 : rtab .any (opsOf Tryd.f14 17) = budwoodlaw18_do.T17 := by kernel_rfl
theorem budwoodlaw18_do.bits17 : waitsOk budwoodlaw18_do.T17.2 budwoodlaw18_do.B17 = true := by kernel_rfl

/-! ### budwoodlaw18_GateCounts: function 4 -/
mutual
def budwoodlaw18_GateCounts.l0 : Nat → List (S43) → Int → AR51 → AR39 → Option (Bool)
  | 0, _, _, _, _ => none
  | k + 1, x0, x5, x301000, x302000 => if x5 < (x0.length : Int) then ((gate_Table_Free.f k x301000).bind fun bt303 => (if 0 ≤ x5 then ((gate_Table_Find.f bt303.2 ((rd_T43 x0 x5).f1.f0)).bind fun bt306 => ((budwoodlaw18_do.f k bt306.2.2.2.2.2 x302000 ((rd_T43 x0 x5).f0) ((rd_T43 x0 x5).f1.f0) ((rd_T43 x0 x5).f1.f1) ((rd_T43 x0 x5).f1.f2)).bind fun bt314 => ((gate_Table_Find.f bt314.2.2 ((rd_T43 x0 x5).f1.f0)).bind fun bt318 => (if bt306.2.2.2.2.1 = 0 then (budwoodlaw18_GateCounts.j1 k x0 x5 bt303.1 bt306.2.2.2.2.1 bt318.2.2.2.2.1 0 (bt318.2.2.2.2.1 != 0) bt318.2.2.2.2.2 bt314.1) else (budwoodlaw18_GateCounts.j1 k x0 x5 bt303.1 bt306.2.2.2.2.1 bt318.2.2.2.2.1 0 false bt318.2.2.2.2.2 bt314.1))))) else (none))) else ((budwoodlaw18_awake.f k).bind fun t302 => (some t302))
def budwoodlaw18_GateCounts.j1 : Nat → List (S43) → Int → Int → Int → Int → Int → Bool → AR51 → AR39 → Option (Bool)
  | 0, _, _, _, _, _, _, _, _, _ => none
  | k + 1, x0, x5, x6, x9, x12, x13, x67, x301000, x302000 => if x67 = true then (budwoodlaw18_GateCounts.j2 k x0 x5 x6 x9 x12 1 x301000 x302000) else (budwoodlaw18_GateCounts.j2 k x0 x5 x6 x9 x12 x13 x301000 x302000)
def budwoodlaw18_GateCounts.j2 : Nat → List (S43) → Int → Int → Int → Int → Int → AR51 → AR39 → Option (Bool)
  | 0, _, _, _, _, _, _, _, _ => none
  | k + 1, x0, x5, x6, x9, x12, x13, x301000, x302000 => if x9 = 0 then (budwoodlaw18_GateCounts.j3 k x0 x5 x6 x13 false x301000 x302000) else (budwoodlaw18_GateCounts.j3 k x0 x5 x6 x13 (x12 == 0) x301000 x302000)
def budwoodlaw18_GateCounts.j3 : Nat → List (S43) → Int → Int → Int → Bool → AR51 → AR39 → Option (Bool)
  | 0, _, _, _, _, _, _, _ => none
  | k + 1, x0, x5, x6, x13, x73, x301000, x302000 => if x73 = true then ((gate_Table_Free.f k x301000).bind fun bt325 => (if bt325.1 = (wrap64 (x6 + (-1))) then (if (-1) = 1 then (if 0 ≤ x5 then (if x5 < (x0.length : Int) then (if (Int.tmod ((rd_T43 x0 x5).f0) 5) = 3 then (if (-1) = (-1) then (if (Int.tmod ((rd_T43 x0 x5).f0) 5) > 1 then (some false) else (budwoodlaw18_GateCounts.l0 k x0 (wrap64 (x5 + 1)) bt325.2 x302000)) else (budwoodlaw18_GateCounts.l0 k x0 (wrap64 (x5 + 1)) bt325.2 x302000)) else (some false)) else (none)) else (none)) else (if (-1) = (-1) then (if 0 ≤ x5 then (if x5 < (x0.length : Int) then (if (Int.tmod ((rd_T43 x0 x5).f0) 5) > 1 then (some false) else (budwoodlaw18_GateCounts.l0 k x0 (wrap64 (x5 + 1)) bt325.2 x302000)) else (none)) else (none)) else (budwoodlaw18_GateCounts.l0 k x0 (wrap64 (x5 + 1)) bt325.2 x302000))) else (some false))) else ((gate_Table_Free.f k x301000).bind fun bt330 => (if bt330.1 = (wrap64 (x6 + x13)) then (if x13 = 1 then (if 0 ≤ x5 then (if x5 < (x0.length : Int) then (if (Int.tmod ((rd_T43 x0 x5).f0) 5) = 3 then (if x13 = (-1) then (if (Int.tmod ((rd_T43 x0 x5).f0) 5) > 1 then (some false) else (budwoodlaw18_GateCounts.l0 k x0 (wrap64 (x5 + 1)) bt330.2 x302000)) else (budwoodlaw18_GateCounts.l0 k x0 (wrap64 (x5 + 1)) bt330.2 x302000)) else (some false)) else (none)) else (none)) else (if x13 = (-1) then (if 0 ≤ x5 then (if x5 < (x0.length : Int) then (if (Int.tmod ((rd_T43 x0 x5).f0) 5) > 1 then (some false) else (budwoodlaw18_GateCounts.l0 k x0 (wrap64 (x5 + 1)) bt330.2 x302000)) else (none)) else (none)) else (budwoodlaw18_GateCounts.l0 k x0 (wrap64 (x5 + 1)) bt330.2 x302000))) else (some false)))
end
def budwoodlaw18_GateCounts.f (k : Nat) (l0 : List (S43)) : Option (Bool) := if (l0.length : Int) > 100 then ((budwoodlaw18_awake.f k).bind fun t298 => (some t298)) else ((gate_New.f).bind fun t299 => (budwoodlaw18_GateCounts.l0 k l0 0 t299 AR39.z))
theorem budwoodlaw18_GateCounts.mono_l : ∀ k, (∀ y0 y1 y2 y3, LeO (budwoodlaw18_GateCounts.l0 k y0 y1 y2 y3) (budwoodlaw18_GateCounts.l0 (k + 1) y0 y1 y2 y3)) ∧ (∀ y0 y1 y2 y3 y4 y5 y6 y7 y8, LeO (budwoodlaw18_GateCounts.j1 k y0 y1 y2 y3 y4 y5 y6 y7 y8) (budwoodlaw18_GateCounts.j1 (k + 1) y0 y1 y2 y3 y4 y5 y6 y7 y8)) ∧ (∀ y0 y1 y2 y3 y4 y5 y6 y7, LeO (budwoodlaw18_GateCounts.j2 k y0 y1 y2 y3 y4 y5 y6 y7) (budwoodlaw18_GateCounts.j2 (k + 1) y0 y1 y2 y3 y4 y5 y6 y7)) ∧ (∀ y0 y1 y2 y3 y4 y5 y6, LeO (budwoodlaw18_GateCounts.j3 k y0 y1 y2 y3 y4 y5 y6) (budwoodlaw18_GateCounts.j3 (k + 1) y0 y1 y2 y3 y4 y5 y6))
  | 0 => ⟨fun _ _ _ _ r h => by simp [budwoodlaw18_GateCounts.l0] at h, fun _ _ _ _ _ _ _ _ _ r h => by simp [budwoodlaw18_GateCounts.j1] at h, fun _ _ _ _ _ _ _ _ r h => by simp [budwoodlaw18_GateCounts.j2] at h, fun _ _ _ _ _ _ _ r h => by simp [budwoodlaw18_GateCounts.j3] at h⟩
  | k + 1 => by
    obtain ⟨ih0, ih1, ih2, ih3⟩ := budwoodlaw18_GateCounts.mono_l k
    refine ⟨?_, ?_, ?_, ?_⟩
    · intro y0 y1 y2 y3
      unfold budwoodlaw18_GateCounts.l0
      repeat' first
      | (with_reducible exact ih0 _ _ _ _)
      | (with_reducible exact ih1 _ _ _ _ _ _ _ _ _)
      | (with_reducible exact ih2 _ _ _ _ _ _ _ _)
      | (with_reducible exact ih3 _ _ _ _ _ _ _)
      | (with_reducible exact budwoodlaw18_awake.mono _)
      | (with_reducible exact budwoodlaw18_do.mono _ _ _ _ _ _ _)
      | (with_reducible exact gate_Table_Free.mono _ _)
      | (with_reducible exact LeO.refl _)
      | (with_reducible exact LeO.none _)
      | (with_reducible refine LeO.ite ?_ ?_)
      | (with_reducible refine LeO.bind ?_ (fun _ => ?_))
      | exact ih0 _ _ _ _
      | exact ih1 _ _ _ _ _ _ _ _ _
      | exact ih2 _ _ _ _ _ _ _ _
      | exact ih3 _ _ _ _ _ _ _
      | exact budwoodlaw18_awake.mono _
      | exact budwoodlaw18_do.mono _ _ _ _ _ _ _
      | exact gate_Table_Free.mono _ _
      | exact LeO.none _
      | refine LeO.ite ?_ ?_
      | refine LeO.bind ?_ (fun _ => ?_)
    · intro y0 y1 y2 y3 y4 y5 y6 y7 y8
      unfold budwoodlaw18_GateCounts.j1
      repeat' first
      | (with_reducible exact ih0 _ _ _ _)
      | (with_reducible exact ih1 _ _ _ _ _ _ _ _ _)
      | (with_reducible exact ih2 _ _ _ _ _ _ _ _)
      | (with_reducible exact ih3 _ _ _ _ _ _ _)
      | (with_reducible exact budwoodlaw18_awake.mono _)
      | (with_reducible exact budwoodlaw18_do.mono _ _ _ _ _ _ _)
      | (with_reducible exact gate_Table_Free.mono _ _)
      | (with_reducible exact LeO.refl _)
      | (with_reducible exact LeO.none _)
      | (with_reducible refine LeO.ite ?_ ?_)
      | (with_reducible refine LeO.bind ?_ (fun _ => ?_))
      | exact ih0 _ _ _ _
      | exact ih1 _ _ _ _ _ _ _ _ _
      | exact ih2 _ _ _ _ _ _ _ _
      | exact ih3 _ _ _ _ _ _ _
      | exact budwoodlaw18_awake.mono _
      | exact budwoodlaw18_do.mono _ _ _ _ _ _ _
      | exact gate_Table_Free.mono _ _
      | exact LeO.none _
      | refine LeO.ite ?_ ?_
      | refine LeO.bind ?_ (fun _ => ?_)
    · intro y0 y1 y2 y3 y4 y5 y6 y7
      unfold budwoodlaw18_GateCounts.j2
      repeat' first
      | (with_reducible exact ih0 _ _ _ _)
      | (with_reducible exact ih1 _ _ _ _ _ _ _ _ _)
      | (with_reducible exact ih2 _ _ _ _ _ _ _ _)
      | (with_reducible exact ih3 _ _ _ _ _ _ _)
      | (with_reducible exact budwoodlaw18_awake.mono _)
      | (with_reducible exact budwoodlaw18_do.mono _ _ _ _ _ _ _)
      | (with_reducible exact gate_Table_Free.mono _ _)
      | (with_reducible exact LeO.refl _)
      | (with_reducible exact LeO.none _)
      | (with_reducible refine LeO.ite ?_ ?_)
      | (with_reducible refine LeO.bind ?_ (fun _ => ?_))
      | exact ih0 _ _ _ _
      | exact ih1 _ _ _ _ _ _ _ _ _
      | exact ih2 _ _ _ _ _ _ _ _
      | exact ih3 _ _ _ _ _ _ _
      | exact budwoodlaw18_awake.mono _
      | exact budwoodlaw18_do.mono _ _ _ _ _ _ _
      | exact gate_Table_Free.mono _ _
      | exact LeO.none _
      | refine LeO.ite ?_ ?_
      | refine LeO.bind ?_ (fun _ => ?_)
    · intro y0 y1 y2 y3 y4 y5 y6
      unfold budwoodlaw18_GateCounts.j3
      repeat' first
      | (with_reducible exact ih0 _ _ _ _)
      | (with_reducible exact ih1 _ _ _ _ _ _ _ _ _)
      | (with_reducible exact ih2 _ _ _ _ _ _ _ _)
      | (with_reducible exact ih3 _ _ _ _ _ _ _)
      | (with_reducible exact budwoodlaw18_awake.mono _)
      | (with_reducible exact budwoodlaw18_do.mono _ _ _ _ _ _ _)
      | (with_reducible exact gate_Table_Free.mono _ _)
      | (with_reducible exact LeO.refl _)
      | (with_reducible exact LeO.none _)
      | (with_reducible refine LeO.ite ?_ ?_)
      | (with_reducible refine LeO.bind ?_ (fun _ => ?_))
      | exact ih0 _ _ _ _
      | exact ih1 _ _ _ _ _ _ _ _ _
      | exact ih2 _ _ _ _ _ _ _ _
      | exact ih3 _ _ _ _ _ _ _
      | exact budwoodlaw18_awake.mono _
      | exact budwoodlaw18_do.mono _ _ _ _ _ _ _
      | exact gate_Table_Free.mono _ _
      | exact LeO.none _
      | refine LeO.ite ?_ ?_
      | refine LeO.bind ?_ (fun _ => ?_)
theorem budwoodlaw18_GateCounts.mono : ∀ a0 k, LeO (budwoodlaw18_GateCounts.f k a0) (budwoodlaw18_GateCounts.f (k + 1) a0) := by
  intro a0 k
  obtain ⟨ih0, ih1, ih2, ih3⟩ := budwoodlaw18_GateCounts.mono_l k
  unfold budwoodlaw18_GateCounts.f
  repeat' first
      | (with_reducible exact ih0 _ _ _ _)
      | (with_reducible exact ih1 _ _ _ _ _ _ _ _ _)
      | (with_reducible exact ih2 _ _ _ _ _ _ _ _)
      | (with_reducible exact ih3 _ _ _ _ _ _ _)
      | (with_reducible exact budwoodlaw18_awake.mono _)
      | (with_reducible exact budwoodlaw18_do.mono _ _ _ _ _ _ _)
      | (with_reducible exact gate_Table_Free.mono _ _)
      | (with_reducible exact LeO.refl _)
      | (with_reducible exact LeO.none _)
      | (with_reducible refine LeO.ite ?_ ?_)
      | (with_reducible refine LeO.bind ?_ (fun _ => ?_))
      | exact ih0 _ _ _ _
      | exact ih1 _ _ _ _ _ _ _ _ _
      | exact ih2 _ _ _ _ _ _ _ _
      | exact ih3 _ _ _ _ _ _ _
      | exact budwoodlaw18_awake.mono _
      | exact budwoodlaw18_do.mono _ _ _ _ _ _ _
      | exact gate_Table_Free.mono _ _
      | exact LeO.none _
      | refine LeO.ite ?_ ?_
      | refine LeO.bind ?_ (fun _ => ?_)
def budwoodlaw18_GateCounts.T9 : Bool × List (List Nat × List Nat) := (true, [([], []), ([], []), ([], []), ([], []), ([2, 3], [2, 3]), ([4], [4]), ([0, 1, 5], [0, 1, 5]), ([6], [6]), ([7], [7]), ([7], [7]), ([8, 6, 0, 1, 2, 3, 4, 5, 6, 7, 8], [8])])
def budwoodlaw18_GateCounts.B9 : List Nat := [0, 0, 0, 0, 12, 28, 63, 127, 255, 255, 511]
theorem budwoodlaw18_GateCounts.tab9 : rtab .any (opsOf Tryd.f4 9) = budwoodlaw18_GateCounts.T9 := by kernel_rfl
theorem budwoodlaw18_GateCounts.bits9 : waitsOk budwoodlaw18_GateCounts.T9.2 budwoodlaw18_GateCounts.B9 = true := by kernel_rfl

/-! ### gate_Table_Get: function 16 -/
def gate_Table_Get.f (s0_0 : AR51) (a1 : Int) : Option (ByteArray × Int × Int × AR51) := if a1 < 0 then (some ((⟨#[]⟩ : ByteArray), 0, 0, s0_0)) else (if a1 ≥ 8 then (some ((⟨#[]⟩ : ByteArray), 0, 0, s0_0)) else (if 0 ≤ a1 then (if a1 < 8 then (some ((AR51.rd s0_0 a1).f0, (AR51.rd s0_0 a1).f1, (AR51.rd s0_0 a1).f2, s0_0)) else (none)) else (none)))

/-! ### budwoodref18_Table_Get: function 29 -/
def budwoodref18_Table_Get.f (a0_0 : AR39) (a1 : Int) : Option (ByteArray × Int × Int) := if a1 < 0 then (some ((⟨#[]⟩ : ByteArray), 0, 0)) else (if a1 > 7 then (some ((⟨#[]⟩ : ByteArray), 0, 0)) else (if 0 ≤ a1 then (if a1 < 8 then (some ((AR39.rd a0_0 a1).f0, (AR39.rd a0_0 a1).f1, (AR39.rd a0_0 a1).f2)) else (none)) else (none)))

/-! ### budwoodref18_Table_Free: function 30 -/
def budwoodref18_Table_Free.l0 : Nat → Int → Int → AR39 → Option (Int)
  | 0, _, _, _ => none
  | k + 1, x3, x4, x339000 => if x4 < 8 then (if 0 ≤ x4 then (if ((AR39.rd x339000 x4).f1) = 0 then (budwoodref18_Table_Free.l0 k (wrap64 (x3 + 1)) (wrap64 (x4 + 1)) x339000) else (budwoodref18_Table_Free.l0 k x3 (wrap64 (x4 + 1)) x339000)) else (none)) else (some x3)
def budwoodref18_Table_Free.f (k : Nat) (a0_0 : AR39) : Option (Int) := budwoodref18_Table_Free.l0 k 0 0 a0_0
theorem budwoodref18_Table_Free.mono_l : ∀ k, (∀ y0 y1 y2, LeO (budwoodref18_Table_Free.l0 k y0 y1 y2) (budwoodref18_Table_Free.l0 (k + 1) y0 y1 y2))
  | 0 => fun _ _ _ r h => by simp [budwoodref18_Table_Free.l0] at h
  | k + 1 => by
    have ih0 := budwoodref18_Table_Free.mono_l k
    · intro y0 y1 y2
      unfold budwoodref18_Table_Free.l0
      repeat' first
      | (with_reducible exact ih0 _ _ _)
      | (with_reducible exact LeO.refl _)
      | (with_reducible exact LeO.none _)
      | (with_reducible refine LeO.ite ?_ ?_)
      | (with_reducible refine LeO.bind ?_ (fun _ => ?_))
      | exact ih0 _ _ _
      | exact LeO.none _
      | refine LeO.ite ?_ ?_
      | refine LeO.bind ?_ (fun _ => ?_)
theorem budwoodref18_Table_Free.mono : ∀ a0 k, LeO (budwoodref18_Table_Free.f k a0) (budwoodref18_Table_Free.f (k + 1) a0) := by
  intro a0 k
  have ih0 := budwoodref18_Table_Free.mono_l k
  unfold budwoodref18_Table_Free.f
  repeat' first
      | (with_reducible exact ih0 _ _ _)
      | (with_reducible exact LeO.refl _)
      | (with_reducible exact LeO.none _)
      | (with_reducible refine LeO.ite ?_ ?_)
      | (with_reducible refine LeO.bind ?_ (fun _ => ?_))
      | exact ih0 _ _ _
      | exact LeO.none _
      | refine LeO.ite ?_ ?_
      | refine LeO.bind ?_ (fun _ => ?_)

/-! ### budwoodlaw18_same: function 15 -/
def budwoodlaw18_same.l0 : Nat → Int → AR51 → AR39 → Option (Bool × AR51)
  | 0, _, _, _ => none
  | k + 1, x5, x1000, x340000 => if x5 ≤ 8 then ((gate_Table_Get.f x1000 x5).bind fun bt343 => ((budwoodref18_Table_Get.f x340000 x5).bind fun bt347 => (if (!(bt343.1.toList == bt347.1.toList) || (!(bt343.2.1 == bt347.2.1) || (!(bt343.2.2.1 == bt347.2.2)))) = true then (some (false, bt343.2.2.2)) else (budwoodlaw18_same.l0 k (wrap64 (x5 + 1)) bt343.2.2.2 x340000)))) else ((gate_Table_Free.f k x1000).bind fun bt340 => ((budwoodref18_Table_Free.f k x340000).bind fun t342 => (some ((bt340.1 == t342), bt340.2))))
def budwoodlaw18_same.f (k : Nat) (s0_0 : AR51) (a1_0 : AR39) : Option (Bool × AR51) := budwoodlaw18_same.l0 k (-1) s0_0 a1_0
theorem budwoodlaw18_same.mono_l : ∀ k, (∀ y0 y1 y2, LeO (budwoodlaw18_same.l0 k y0 y1 y2) (budwoodlaw18_same.l0 (k + 1) y0 y1 y2))
  | 0 => fun _ _ _ r h => by simp [budwoodlaw18_same.l0] at h
  | k + 1 => by
    have ih0 := budwoodlaw18_same.mono_l k
    · intro y0 y1 y2
      unfold budwoodlaw18_same.l0
      repeat' first
      | (with_reducible exact ih0 _ _ _)
      | (with_reducible exact budwoodref18_Table_Free.mono _ _)
      | (with_reducible exact gate_Table_Free.mono _ _)
      | (with_reducible exact LeO.refl _)
      | (with_reducible exact LeO.none _)
      | (with_reducible refine LeO.ite ?_ ?_)
      | (with_reducible refine LeO.bind ?_ (fun _ => ?_))
      | exact ih0 _ _ _
      | exact budwoodref18_Table_Free.mono _ _
      | exact gate_Table_Free.mono _ _
      | exact LeO.none _
      | refine LeO.ite ?_ ?_
      | refine LeO.bind ?_ (fun _ => ?_)
theorem budwoodlaw18_same.mono : ∀ a0 a1 k, LeO (budwoodlaw18_same.f k a0 a1) (budwoodlaw18_same.f (k + 1) a0 a1) := by
  intro a0 a1 k
  have ih0 := budwoodlaw18_same.mono_l k
  unfold budwoodlaw18_same.f
  repeat' first
      | (with_reducible exact ih0 _ _ _)
      | (with_reducible exact budwoodref18_Table_Free.mono _ _)
      | (with_reducible exact gate_Table_Free.mono _ _)
      | (with_reducible exact LeO.refl _)
      | (with_reducible exact LeO.none _)
      | (with_reducible refine LeO.ite ?_ ?_)
      | (with_reducible refine LeO.bind ?_ (fun _ => ?_))
      | exact ih0 _ _ _
      | exact budwoodref18_Table_Free.mono _ _
      | exact gate_Table_Free.mono _ _
      | exact LeO.none _
      | refine LeO.ite ?_ ?_
      | refine LeO.bind ?_ (fun _ => ?_)

/-! ### budwoodlaw18_GatePlays: function 5 -/
mutual
def budwoodlaw18_GatePlays.l0 : Nat → List (S43) → Int → AR51 → AR39 → Option (Bool)
  | 0, _, _, _, _ => none
  | k + 1, x0, x6, x353000, x354000 => if x6 < (x0.length : Int) then (if 0 ≤ x6 then ((budwoodlaw18_do.f k x353000 x354000 ((rd_T43 x0 x6).f0) ((rd_T43 x0 x6).f1.f0) ((rd_T43 x0 x6).f1.f1) ((rd_T43 x0 x6).f1.f2)).bind fun bt356 => (if bt356.2.1 = true then ((budwoodlaw18_same.f k bt356.2.2 bt356.1).bind fun bt359 => (budwoodlaw18_GatePlays.j1 k x0 x6 (!bt359.1) bt359.2 bt356.1)) else (budwoodlaw18_GatePlays.j1 k x0 x6 true bt356.2.2 bt356.1))) else (none)) else ((budwoodlaw18_awake.f k).bind fun t354 => (some t354))
def budwoodlaw18_GatePlays.j1 : Nat → List (S43) → Int → Bool → AR51 → AR39 → Option (Bool)
  | 0, _, _, _, _, _ => none
  | k + 1, x0, x6, x36, x353000, x354000 => if x36 = true then (some false) else (budwoodlaw18_GatePlays.l0 k x0 (wrap64 (x6 + 1)) x353000 x354000)
end
def budwoodlaw18_GatePlays.f (k : Nat) (l0 : List (S43)) : Option (Bool) := if (l0.length : Int) > 200 then ((budwoodlaw18_awake.f k).bind fun t350 => (some t350)) else ((gate_New.f).bind fun t351 => (budwoodlaw18_GatePlays.l0 k l0 0 t351 AR39.z))
theorem budwoodlaw18_GatePlays.mono_l : ∀ k, (∀ y0 y1 y2 y3, LeO (budwoodlaw18_GatePlays.l0 k y0 y1 y2 y3) (budwoodlaw18_GatePlays.l0 (k + 1) y0 y1 y2 y3)) ∧ (∀ y0 y1 y2 y3 y4, LeO (budwoodlaw18_GatePlays.j1 k y0 y1 y2 y3 y4) (budwoodlaw18_GatePlays.j1 (k + 1) y0 y1 y2 y3 y4))
  | 0 => ⟨fun _ _ _ _ r h => by simp [budwoodlaw18_GatePlays.l0] at h, fun _ _ _ _ _ r h => by simp [budwoodlaw18_GatePlays.j1] at h⟩
  | k + 1 => by
    obtain ⟨ih0, ih1⟩ := budwoodlaw18_GatePlays.mono_l k
    refine ⟨?_, ?_⟩
    · intro y0 y1 y2 y3
      unfold budwoodlaw18_GatePlays.l0
      repeat' first
      | (with_reducible exact ih0 _ _ _ _)
      | (with_reducible exact ih1 _ _ _ _ _)
      | (with_reducible exact budwoodlaw18_awake.mono _)
      | (with_reducible exact budwoodlaw18_do.mono _ _ _ _ _ _ _)
      | (with_reducible exact budwoodlaw18_same.mono _ _ _)
      | (with_reducible exact LeO.refl _)
      | (with_reducible exact LeO.none _)
      | (with_reducible refine LeO.ite ?_ ?_)
      | (with_reducible refine LeO.bind ?_ (fun _ => ?_))
      | exact ih0 _ _ _ _
      | exact ih1 _ _ _ _ _
      | exact budwoodlaw18_awake.mono _
      | exact budwoodlaw18_do.mono _ _ _ _ _ _ _
      | exact budwoodlaw18_same.mono _ _ _
      | exact LeO.none _
      | refine LeO.ite ?_ ?_
      | refine LeO.bind ?_ (fun _ => ?_)
    · intro y0 y1 y2 y3 y4
      unfold budwoodlaw18_GatePlays.j1
      repeat' first
      | (with_reducible exact ih0 _ _ _ _)
      | (with_reducible exact ih1 _ _ _ _ _)
      | (with_reducible exact budwoodlaw18_awake.mono _)
      | (with_reducible exact budwoodlaw18_do.mono _ _ _ _ _ _ _)
      | (with_reducible exact budwoodlaw18_same.mono _ _ _)
      | (with_reducible exact LeO.refl _)
      | (with_reducible exact LeO.none _)
      | (with_reducible refine LeO.ite ?_ ?_)
      | (with_reducible refine LeO.bind ?_ (fun _ => ?_))
      | exact ih0 _ _ _ _
      | exact ih1 _ _ _ _ _
      | exact budwoodlaw18_awake.mono _
      | exact budwoodlaw18_do.mono _ _ _ _ _ _ _
      | exact budwoodlaw18_same.mono _ _ _
      | exact LeO.none _
      | refine LeO.ite ?_ ?_
      | refine LeO.bind ?_ (fun _ => ?_)
theorem budwoodlaw18_GatePlays.mono : ∀ a0 k, LeO (budwoodlaw18_GatePlays.f k a0) (budwoodlaw18_GatePlays.f (k + 1) a0) := by
  intro a0 k
  obtain ⟨ih0, ih1⟩ := budwoodlaw18_GatePlays.mono_l k
  unfold budwoodlaw18_GatePlays.f
  repeat' first
      | (with_reducible exact ih0 _ _ _ _)
      | (with_reducible exact ih1 _ _ _ _ _)
      | (with_reducible exact budwoodlaw18_awake.mono _)
      | (with_reducible exact budwoodlaw18_do.mono _ _ _ _ _ _ _)
      | (with_reducible exact budwoodlaw18_same.mono _ _ _)
      | (with_reducible exact LeO.refl _)
      | (with_reducible exact LeO.none _)
      | (with_reducible refine LeO.ite ?_ ?_)
      | (with_reducible refine LeO.bind ?_ (fun _ => ?_))
      | exact ih0 _ _ _ _
      | exact ih1 _ _ _ _ _
      | exact budwoodlaw18_awake.mono _
      | exact budwoodlaw18_do.mono _ _ _ _ _ _ _
      | exact budwoodlaw18_same.mono _ _ _
      | exact LeO.none _
      | refine LeO.ite ?_ ?_
      | refine LeO.bind ?_ (fun _ => ?_)
def budwoodlaw18_GatePlays.T8 : Bool × List (List Nat × List Nat) := (true, [([], []), ([], []), ([], []), ([], []), ([2, 3], [2, 3]), ([4], [4]), ([0, 1, 5], [0, 1, 5]), ([6], [6]), ([7], [7]), ([7], [7]), ([8, 6, 0, 1, 2, 3, 4, 5, 6, 7, 8], [8]), ([9, 10, 0, 1, 2, 3, 4, 5, 6, 7, 8, 9, 10], [9])])
def budwoodlaw18_GatePlays.B8 : List Nat := [0, 0, 0, 0, 12, 28, 63, 127, 255, 255, 511, 2047]
theorem budwoodlaw18_GatePlays.tab8 : rtab .any (opsOf Tryd.f5 8) = budwoodlaw18_GatePlays.T8 := by kernel_rfl
theorem budwoodlaw18_GatePlays.bits8 : waitsOk budwoodlaw18_GatePlays.T8.2 budwoodlaw18_GatePlays.B8 = true := by kernel_rfl

/-! ### budwoodlaw18_GateKeeps: function 6 -/
mutual
def budwoodlaw18_GateKeeps.l0 : Nat → List (S43) → Int → AR51 → AR39 → Option (Bool)
  | 0, _, _, _, _ => none
  | k + 1, x0, x5, x364000, x365000 => if x5 < (x0.length : Int) then (if 0 ≤ x5 then ((gate_Table_Find.f x364000 ((rd_T43 x0 x5).f1.f0)).bind fun bt366 => ((budwoodlaw18_do.f k bt366.2.2.2.2.2 x365000 ((rd_T43 x0 x5).f0) ((rd_T43 x0 x5).f1.f0) ((rd_T43 x0 x5).f1.f1) ((rd_T43 x0 x5).f1.f2)).bind fun bt374 => ((gate_Table_Find.f bt374.2.2 ((rd_T43 x0 x5).f1.f0)).bind fun bt378 => (if bt366.2.2.2.2.1 = 0 then (if bt378.2.2.2.2.1 = 0 then (if bt366.1 = bt378.1 then (budwoodlaw18_GateKeeps.j1 k x0 x5 (bt378.2.1.toList != ((rd_T43 x0 x5).f1.f0).toList) bt378.2.2.2.2.2 bt374.1) else (budwoodlaw18_GateKeeps.j1 k x0 x5 true bt378.2.2.2.2.2 bt374.1)) else (budwoodlaw18_GateKeeps.j1 k x0 x5 false bt378.2.2.2.2.2 bt374.1)) else (budwoodlaw18_GateKeeps.j1 k x0 x5 false bt378.2.2.2.2.2 bt374.1))))) else (none)) else (budwoodlaw18_GateKeeps.l1 k 0 x364000)
def budwoodlaw18_GateKeeps.j1 : Nat → List (S43) → Int → Bool → AR51 → AR39 → Option (Bool)
  | 0, _, _, _, _, _ => none
  | k + 1, x0, x5, x83, x364000, x365000 => if x83 = true then (some false) else (budwoodlaw18_GateKeeps.l0 k x0 (wrap64 (x5 + 1)) x364000 x365000)
def budwoodlaw18_GateKeeps.l1 : Nat → Int → AR51 → Option (Bool)
  | 0, _, _ => none
  | k + 1, x12, x364000 => if x12 < 8 then ((gate_Table_Get.f x364000 x12).bind fun bt387 => (if ((bt387.2.1 == 0) != (bt387.1.toList == ([] : List UInt8) && (bt387.2.1 == 0 && (bt387.2.2.1 == 0)))) = true then (some false) else (budwoodlaw18_GateKeeps.l2 k x12 0 bt387.2.2.2 bt387.1 bt387.2.1 bt387.2.2.1))) else ((budwoodlaw18_awake.f k).bind fun t386 => (some t386))
def budwoodlaw18_GateKeeps.l2 : Nat → Int → Int → AR51 → ByteArray → Int → Int → Option (Bool)
  | 0, _, _, _, _, _, _ => none
  | k + 1, x12, x14, x364000, x392000, x392001, x392002 => if x14 < x12 then ((gate_Table_Get.f x364000 x14).bind fun bt392 => (if x392001 = 0 then (budwoodlaw18_GateKeeps.l2 k x12 (wrap64 (x14 + 1)) bt392.2.2.2 x392000 x392001 x392002) else (if bt392.2.1 = 0 then (budwoodlaw18_GateKeeps.l2 k x12 (wrap64 (x14 + 1)) bt392.2.2.2 x392000 x392001 x392002) else (if x392001 = bt392.2.1 then (some false) else (if x392000.toList = bt392.1.toList then (some false) else (budwoodlaw18_GateKeeps.l2 k x12 (wrap64 (x14 + 1)) bt392.2.2.2 x392000 x392001 x392002)))))) else (budwoodlaw18_GateKeeps.l1 k (wrap64 (x12 + 1)) x364000)
end
def budwoodlaw18_GateKeeps.f (k : Nat) (l0 : List (S43)) : Option (Bool) := if (l0.length : Int) > 100 then ((budwoodlaw18_awake.f k).bind fun t361 => (some t361)) else ((gate_New.f).bind fun t362 => (budwoodlaw18_GateKeeps.l0 k l0 0 t362 AR39.z))
theorem budwoodlaw18_GateKeeps.mono_l : ∀ k, (∀ y0 y1 y2 y3, LeO (budwoodlaw18_GateKeeps.l0 k y0 y1 y2 y3) (budwoodlaw18_GateKeeps.l0 (k + 1) y0 y1 y2 y3)) ∧ (∀ y0 y1 y2 y3 y4, LeO (budwoodlaw18_GateKeeps.j1 k y0 y1 y2 y3 y4) (budwoodlaw18_GateKeeps.j1 (k + 1) y0 y1 y2 y3 y4)) ∧ (∀ y0 y1, LeO (budwoodlaw18_GateKeeps.l1 k y0 y1) (budwoodlaw18_GateKeeps.l1 (k + 1) y0 y1)) ∧ (∀ y0 y1 y2 y3 y4 y5, LeO (budwoodlaw18_GateKeeps.l2 k y0 y1 y2 y3 y4 y5) (budwoodlaw18_GateKeeps.l2 (k + 1) y0 y1 y2 y3 y4 y5))
  | 0 => ⟨fun _ _ _ _ r h => by simp [budwoodlaw18_GateKeeps.l0] at h, fun _ _ _ _ _ r h => by simp [budwoodlaw18_GateKeeps.j1] at h, fun _ _ r h => by simp [budwoodlaw18_GateKeeps.l1] at h, fun _ _ _ _ _ _ r h => by simp [budwoodlaw18_GateKeeps.l2] at h⟩
  | k + 1 => by
    obtain ⟨ih0, ih1, ih2, ih3⟩ := budwoodlaw18_GateKeeps.mono_l k
    refine ⟨?_, ?_, ?_, ?_⟩
    · intro y0 y1 y2 y3
      unfold budwoodlaw18_GateKeeps.l0
      repeat' first
      | (with_reducible exact ih0 _ _ _ _)
      | (with_reducible exact ih1 _ _ _ _ _)
      | (with_reducible exact ih2 _ _)
      | (with_reducible exact ih3 _ _ _ _ _ _)
      | (with_reducible exact budwoodlaw18_awake.mono _)
      | (with_reducible exact budwoodlaw18_do.mono _ _ _ _ _ _ _)
      | (with_reducible exact LeO.refl _)
      | (with_reducible exact LeO.none _)
      | (with_reducible refine LeO.ite ?_ ?_)
      | (with_reducible refine LeO.bind ?_ (fun _ => ?_))
      | exact ih0 _ _ _ _
      | exact ih1 _ _ _ _ _
      | exact ih2 _ _
      | exact ih3 _ _ _ _ _ _
      | exact budwoodlaw18_awake.mono _
      | exact budwoodlaw18_do.mono _ _ _ _ _ _ _
      | exact LeO.none _
      | refine LeO.ite ?_ ?_
      | refine LeO.bind ?_ (fun _ => ?_)
    · intro y0 y1 y2 y3 y4
      unfold budwoodlaw18_GateKeeps.j1
      repeat' first
      | (with_reducible exact ih0 _ _ _ _)
      | (with_reducible exact ih1 _ _ _ _ _)
      | (with_reducible exact ih2 _ _)
      | (with_reducible exact ih3 _ _ _ _ _ _)
      | (with_reducible exact budwoodlaw18_awake.mono _)
      | (with_reducible exact budwoodlaw18_do.mono _ _ _ _ _ _ _)
      | (with_reducible exact LeO.refl _)
      | (with_reducible exact LeO.none _)
      | (with_reducible refine LeO.ite ?_ ?_)
      | (with_reducible refine LeO.bind ?_ (fun _ => ?_))
      | exact ih0 _ _ _ _
      | exact ih1 _ _ _ _ _
      | exact ih2 _ _
      | exact ih3 _ _ _ _ _ _
      | exact budwoodlaw18_awake.mono _
      | exact budwoodlaw18_do.mono _ _ _ _ _ _ _
      | exact LeO.none _
      | refine LeO.ite ?_ ?_
      | refine LeO.bind ?_ (fun _ => ?_)
    · intro y0 y1
      unfold budwoodlaw18_GateKeeps.l1
      repeat' first
      | (with_reducible exact ih0 _ _ _ _)
      | (with_reducible exact ih1 _ _ _ _ _)
      | (with_reducible exact ih2 _ _)
      | (with_reducible exact ih3 _ _ _ _ _ _)
      | (with_reducible exact budwoodlaw18_awake.mono _)
      | (with_reducible exact budwoodlaw18_do.mono _ _ _ _ _ _ _)
      | (with_reducible exact LeO.refl _)
      | (with_reducible exact LeO.none _)
      | (with_reducible refine LeO.ite ?_ ?_)
      | (with_reducible refine LeO.bind ?_ (fun _ => ?_))
      | exact ih0 _ _ _ _
      | exact ih1 _ _ _ _ _
      | exact ih2 _ _
      | exact ih3 _ _ _ _ _ _
      | exact budwoodlaw18_awake.mono _
      | exact budwoodlaw18_do.mono _ _ _ _ _ _ _
      | exact LeO.none _
      | refine LeO.ite ?_ ?_
      | refine LeO.bind ?_ (fun _ => ?_)
    · intro y0 y1 y2 y3 y4 y5
      unfold budwoodlaw18_GateKeeps.l2
      repeat' first
      | (with_reducible exact ih0 _ _ _ _)
      | (with_reducible exact ih1 _ _ _ _ _)
      | (with_reducible exact ih2 _ _)
      | (with_reducible exact ih3 _ _ _ _ _ _)
      | (with_reducible exact budwoodlaw18_awake.mono _)
      | (with_reducible exact budwoodlaw18_do.mono _ _ _ _ _ _ _)
      | (with_reducible exact LeO.refl _)
      | (with_reducible exact LeO.none _)
      | (with_reducible refine LeO.ite ?_ ?_)
      | (with_reducible refine LeO.bind ?_ (fun _ => ?_))
      | exact ih0 _ _ _ _
      | exact ih1 _ _ _ _ _
      | exact ih2 _ _
      | exact ih3 _ _ _ _ _ _
      | exact budwoodlaw18_awake.mono _
      | exact budwoodlaw18_do.mono _ _ _ _ _ _ _
      | exact LeO.none _
      | refine LeO.ite ?_ ?_
      | refine LeO.bind ?_ (fun _ => ?_)
theorem budwoodlaw18_GateKeeps.mono : ∀ a0 k, LeO (budwoodlaw18_GateKeeps.f k a0) (budwoodlaw18_GateKeeps.f (k + 1) a0) := by
  intro a0 k
  obtain ⟨ih0, ih1, ih2, ih3⟩ := budwoodlaw18_GateKeeps.mono_l k
  unfold budwoodlaw18_GateKeeps.f
  repeat' first
      | (with_reducible exact ih0 _ _ _ _)
      | (with_reducible exact ih1 _ _ _ _ _)
      | (with_reducible exact ih2 _ _)
      | (with_reducible exact ih3 _ _ _ _ _ _)
      | (with_reducible exact budwoodlaw18_awake.mono _)
      | (with_reducible exact budwoodlaw18_do.mono _ _ _ _ _ _ _)
      | (with_reducible exact LeO.refl _)
      | (with_reducible exact LeO.none _)
      | (with_reducible refine LeO.ite ?_ ?_)
      | (with_reducible refine LeO.bind ?_ (fun _ => ?_))
      | exact ih0 _ _ _ _
      | exact ih1 _ _ _ _ _
      | exact ih2 _ _
      | exact ih3 _ _ _ _ _ _
      | exact budwoodlaw18_awake.mono _
      | exact budwoodlaw18_do.mono _ _ _ _ _ _ _
      | exact LeO.none _
      | refine LeO.ite ?_ ?_
      | refine LeO.bind ?_ (fun _ => ?_)
def budwoodlaw18_GateKeeps.T8 : Bool × List (List Nat × List Nat) := (true, [([], []), ([], []), ([], []), ([], []), ([2, 3], [2, 3]), ([4], [4]), ([0, 1, 5], [0, 1, 5]), ([6], [6]), ([7], [7]), ([7], [7]), ([8, 6, 0, 1, 2, 3, 4, 5, 6, 7, 8], [8])])
def budwoodlaw18_GateKeeps.B8 : List Nat := [0, 0, 0, 0, 12, 28, 63, 127, 255, 255, 511]
theorem budwoodlaw18_GateKeeps.tab8 : rtab .any (opsOf Tryd.f6 8) = budwoodlaw18_GateKeeps.T8 := by kernel_rfl
theorem budwoodlaw18_GateKeeps.bits8 : waitsOk budwoodlaw18_GateKeeps.T8.2 budwoodlaw18_GateKeeps.B8 = true := by kernel_rfl
def budwoodlaw18_GateKeeps.T10 : Bool × List (List Nat × List Nat) := (true, [([], []), ([0], [0]), ([1], [1]), ([2], [2]), ([3, 2], [2, 3]), ([2, 4], [2, 4]), ([5, 2], [5]), ([6], [6]), ([6], [6]), ([7, 8, 6], [6, 7, 8]), ([9, 6, 6], [6, 9]), ([10], [10]), ([11, 10], [10, 11]), ([10], [10]), ([10], [10]), ([13, 14, 10], [10, 13, 14]), ([15, 10], [10, 15]), ([16, 10], [10, 16]), ([17, 10], [10, 17]), ([12, 18, 10], [10, 12, 18]), ([10, 19, 6], [6, 10, 19]), ([6, 20], [6, 20])])
def budwoodlaw18_GateKeeps.B10 : List Nat := [0, 1, 3, 7, 15, 31, 63, 127, 127, 511, 1023, 2047, 4095, 2047, 2047, 26623, 59391, 124927, 255999, 524287, 1048575, 2097151]
theorem budwoodlaw18_GateKeeps.tab10 : rtab .any (opsOf Tryd.f6 10) = budwoodlaw18_GateKeeps.T10 := by kernel_rfl
theorem budwoodlaw18_GateKeeps.bits10 : waitsOk budwoodlaw18_GateKeeps.T10.2 budwoodlaw18_GateKeeps.B10 = true := by kernel_rfl

-- NOT PRINTED: function 17 (gate_Table_Fork)

-- NOT PRINTED: function 7 (budwoodlaw18_GateForks)

end Go.Proofs.YtlgmboaoemlnpaaDoor.P
