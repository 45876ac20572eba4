import Derived.Calls
import Derived.Control
import Derived.Below
import Derived.AtR
/- What a run shows: values and memory as they are seen by a walk (TV, Root, AS), and how they stand to the model's own (Rep, Rel). -/
namespace Go.Abs
set_option linter.unusedSimpArgs false
set_option linter.unusedVariables false
set_option linter.unusedVariables false

/-- Values as a walk sees them: one exactly, any, a struct's cells, a tuple, a list that nobody writes any more, a list in a block that is held, a pointer to what nobody writes, a closure. -/
inductive TV where
  | s (v : Value)
  | any
  | agg (cs : List TV)
  | tup (l : List TV)
  | nils
  | vs (k : Nat) (es : List (List TV))
  | rs (b off n k : Nat)
  | fp (cs : List TV)
  | clo (fn : Fn) (first cap : List TV)
  deriving Inhabited

/-- What a block that is held has. -/
inductive Root where
  | cells (cs : List TV)
  | map (es : List (Value × TV))
  | strIter (s : ByteArray) (pos : Nat)
  | mapB (es : List (Nat × Value × TV)) (clock : Nat)
  | exact (o : Obj)
  | loop (st : LoopState) (pend : Option Code) (ps : Array Tmp) (asg body : Code) (n : Nat) (env : List (Nat × TV))
  deriving Inhabited

abbrev Heap := Nat → Option Root
def upd (H : Heap) (b : Nat) (r : Root) : Heap := fun x => if x = b then some r else H x
def del (H : Heap) (b : Nat) : Heap := fun x => if x = b then none else H x

/-- How many cells a block has. -/
def bsz (w : World) (b : Nat) : Nat := match w.heap[b]? with | some (.cells c _ _) => c.size | _ => 0

mutual
def Rep (w : World) (F : Nat → Prop) : TV → Value → Prop
  | .s v, x => x = v
  | .any, _ => True
  | .agg cs, x => ∃ xs, x = .agg xs ∧ RepL w F cs xs.toList
  | .tup l, x => ∃ xs, x = .tuple xs ∧ RepL w F l xs.toList
  | .nils, x => ∃ a, x = .slice a 0 0
  | .vs k es, x => ∃ a n cap, x = .slice a n cap ∧ n ≤ cap ∧ RepE w F a k n es
  | .rs b off n k, x => ∃ a cap, x = .slice a n cap ∧ n ≤ cap ∧ (cap = 0 ∨ a = some ⟨b, off, none⟩ ∧ off + cap * k ≤ bsz w b)
  | .fp cs, x => ∃ b off, x = .pointer (some ⟨b, off, none⟩) ∧ F b ∧ RepC w F b off cs
  | .clo fn f c, x => ∃ fs cs, x = .func fn fs cs ∧ RepL w F f fs.toList ∧ RepL w F c cs.toList
def RepL (w : World) (F : Nat → Prop) : List TV → List Value → Prop
  | [], xs => xs = []
  | t :: ts, xs => ∃ y ys, xs = y :: ys ∧ Rep w F t y ∧ RepL w F ts ys
def RepC (w : World) (F : Nat → Prop) (b : Nat) (off : Nat) : List TV → Prop
  | [] => True
  | t :: ts => (∃ v, w.cell? ⟨b, off, none⟩ = some v ∧ Rep w F t v) ∧ RepC w F b (off + 1) ts
def RepE (w : World) (F : Nat → Prop) (a : Option Addr) (k : Nat) (n : Nat) : List (List TV) → Prop
  | [] => n = 0
  | e :: es => ∃ b off m, a = some ⟨b, off, none⟩ ∧ n = m + 1 ∧ F b ∧ e.length = k ∧ RepC w F b off e ∧ RepE w F (some ⟨b, off + k, none⟩) k m es
end

/-- Blocks that are there and not held. -/
def Fr (H : Heap) (w : World) (b : Nat) : Prop := b < w.heap.size ∧ H b = none

def RepM (w : World) (F : Nat → Prop) : List (Value × TV) → List MapEntry → Prop
  | [], xs => xs = []
  | (k, t) :: ts, xs => ∃ y ys, xs = y :: ys ∧ y.key = k ∧ Rep w F t y.val ∧ RepM w F ts ys

def look : List (Nat × TV) → Nat → Option TV
  | [], _ => none
  | (a, v) :: l, t => if t = a then some v else look l t

def RootRel (w : World) (F : Nat → Prop) (b : Nat) : Root → Prop
  | .cells cs => ∃ c elem fz, w.heap[b]? = some (.cells c elem fz) ∧ (fz.2 ≤ fz.1 ∨ c.size ≤ fz.1) ∧ cs.length ≤ c.size ∧ RepL w F cs (c.toList.take cs.length)
  | .map es => ∃ ms clock, w.heap[b]? = some (.map ms clock) ∧ RepM w F es ms.toList ∧ (∀ e ∈ ms, e.born < clock) ∧ (ms.toList.map (·.born)).Nodup
  | .strIter s pos => w.heap[b]? = some (.stringIter s pos)
  | .mapB es clock => ∃ ms, w.heap[b]? = some (.map ms clock) ∧ RepM w F (es.map (·.2)) ms.toList ∧ ms.toList.map (·.born) = es.map (·.1) ∧ (∀ e ∈ es, e.1 < clock) ∧ (es.map (·.1)).Nodup
  | .exact o => w.heap[b]? = some o
  | .loop st pend ps asg body n env => ∃ r : Loop, w.heap[b]? = some (.loop r) ∧ r.state = st ∧ r.pending = pend ∧ r.params = ps ∧ r.assign = asg ∧ r.body = body ∧ r.tmps.size = n ∧ ∀ t v, look env t = some v → t < n ∧ Rep w F v (r.tmps.getD t undef)

def HRel (H : Heap) (w : World) : Prop := ∀ b r, H b = some r → RootRel w (Fr H w) b r

/-- How much is told of draws. -/
def dr (n : Nat) : Nat := 0
theorem dr_succ (n : Nat) : dr n ≤ dr (n + 1) := by unfold dr; omega
theorem dr_le {n m : Nat} (h : n ≤ m) : dr n ≤ dr m := by unfold dr; omega
structure Ext (H : Heap) (w : World) (H' : Heap) (w' : World) : Prop where
  size : w.heap.size ≤ w'.heap.size
  keep : ∀ b, b < w.heap.size → H b = none → w'.heap[b]? = w.heap[b]? ∧ H' b = none
  bsz : ∀ b, bsz w b ≤ bsz w' b
  os : w'.os = w.os
  tape : w'.tape = w.tape
  output : w'.output = w.output
  drawn : dr w.drawn ≤ dr w'.drawn

theorem Ext.refl (H : Heap) (w : World) : Ext H w H w := ⟨Nat.le_refl _, fun _ _ h => ⟨rfl, h⟩, fun _ => Nat.le_refl _, rfl, rfl, rfl, Nat.le_refl _⟩
theorem Ext.trans {H H1 H2 : Heap} {w w1 w2 : World} (h : Ext H w H1 w1) (g : Ext H1 w1 H2 w2) : Ext H w H2 w2 :=
  ⟨Nat.le_trans h.size g.size, fun b hb hn => by
    obtain ⟨e1, n1⟩ := h.keep b hb hn
    obtain ⟨e2, n2⟩ := g.keep b (Nat.lt_of_lt_of_le hb h.size) n1
    exact ⟨e2.trans e1, n2⟩, fun b => Nat.le_trans (h.bsz b) (g.bsz b), g.os.trans h.os, g.tape.trans h.tape, g.output.trans h.output, Nat.le_trans h.drawn g.drawn⟩

theorem cell_of {w w' : World} {b : Nat} (h : w'.heap[b]? = w.heap[b]?) (off : Nat) : w'.cell? ⟨b, off, none⟩ = w.cell? ⟨b, off, none⟩ := by
  simp only [World.cell?, h]

mutual
theorem Rep.mono {w w' : World} {F F' : Nat → Prop} (hF : ∀ b, F b → F' b ∧ w'.heap[b]? = w.heap[b]?) (hs : ∀ b, bsz w b ≤ bsz w' b) :
    ∀ (t : TV) (x : Value), Rep w F t x → Rep w' F' t x
  | .s v, x, h => by simpa only [Rep] using h
  | .any, x, h => by simp only [Rep]
  | .agg cs, x, h => by
    simp only [Rep] at h ⊢; obtain ⟨xs, rfl, h⟩ := h; exact ⟨xs, rfl, RepL.mono hF hs cs _ h⟩
  | .tup cs, x, h => by
    simp only [Rep] at h ⊢; obtain ⟨xs, rfl, h⟩ := h; exact ⟨xs, rfl, RepL.mono hF hs cs _ h⟩
  | .nils, x, h => by simpa only [Rep] using h
  | .vs k es, x, h => by
    simp only [Rep] at h ⊢; obtain ⟨a, n, cap, rfl, hc, h⟩ := h; exact ⟨a, n, cap, rfl, hc, RepE.mono hF hs k es a n h⟩
  | .rs b off n k, x, h => by
    simp only [Rep] at h ⊢; obtain ⟨a, cap, rfl, hc, h⟩ := h; exact ⟨a, cap, rfl, hc, h.imp id fun ⟨h1, h2⟩ => ⟨h1, Nat.le_trans h2 (hs b)⟩⟩
  | .fp cs, x, h => by
    simp only [Rep] at h ⊢; obtain ⟨b, off, rfl, hb, h⟩ := h; exact ⟨b, off, rfl, (hF b hb).1, RepC.mono hF hs (hF b hb).2 cs off h⟩
  | .clo fn f c, x, h => by
    simp only [Rep] at h ⊢; obtain ⟨fs, cs, rfl, h1, h2⟩ := h; exact ⟨fs, cs, rfl, RepL.mono hF hs f _ h1, RepL.mono hF hs c _ h2⟩
theorem RepL.mono {w w' : World} {F F' : Nat → Prop} (hF : ∀ b, F b → F' b ∧ w'.heap[b]? = w.heap[b]?) (hs : ∀ b, bsz w b ≤ bsz w' b) :
    ∀ (t : List TV) (x : List Value), RepL w F t x → RepL w' F' t x
  | [], x, h => by simpa only [RepL] using h
  | t :: ts, x, h => by
    simp only [RepL] at h ⊢; obtain ⟨y, ys, rfl, h1, h2⟩ := h; exact ⟨y, ys, rfl, Rep.mono hF hs t y h1, RepL.mono hF hs ts ys h2⟩
theorem RepC.mono {w w' : World} {F F' : Nat → Prop} (hF : ∀ b, F b → F' b ∧ w'.heap[b]? = w.heap[b]?) (hs : ∀ b, bsz w b ≤ bsz w' b) {b : Nat} (hb : w'.heap[b]? = w.heap[b]?) :
    ∀ (t : List TV) (off : Nat), RepC w F b off t → RepC w' F' b off t
  | [], _, h => by simp only [RepC]
  | t :: ts, off, h => by
    simp only [RepC] at h ⊢; obtain ⟨⟨v, h0, h1⟩, h2⟩ := h
    exact ⟨⟨v, (cell_of hb off).trans h0, Rep.mono hF hs t v h1⟩, RepC.mono hF hs hb ts (off + 1) h2⟩
theorem RepE.mono {w w' : World} {F F' : Nat → Prop} (hF : ∀ b, F b → F' b ∧ w'.heap[b]? = w.heap[b]?) (hs : ∀ b, bsz w b ≤ bsz w' b) (k : Nat) :
    ∀ (es : List (List TV)) (a : Option Addr) (n : Nat), RepE w F a k n es → RepE w' F' a k n es
  | [], _, _, h => by simpa only [RepE] using h
  | e :: es, a, n, h => by
    simp only [RepE] at h ⊢; obtain ⟨b, off, m, rfl, rfl, hb, hl, h1, h2⟩ := h
    exact ⟨b, off, m, rfl, rfl, (hF b hb).1, hl, RepC.mono hF hs (hF b hb).2 e off h1, RepE.mono hF hs k es _ m h2⟩
end

theorem RepM.mono {w w' : World} {F F' : Nat → Prop} (hF : ∀ b, F b → F' b ∧ w'.heap[b]? = w.heap[b]?) (hs : ∀ b, bsz w b ≤ bsz w' b) :
    ∀ (t : List (Value × TV)) (x : List MapEntry), RepM w F t x → RepM w' F' t x
  | [], x, h => by simpa only [RepM] using h
  | (k, t) :: ts, x, h => by
    simp only [RepM] at h ⊢; obtain ⟨y, ys, rfl, h0, h1, h2⟩ := h; exact ⟨y, ys, rfl, h0, Rep.mono hF hs t _ h1, RepM.mono hF hs ts ys h2⟩

theorem Ext.fr {H H' : Heap} {w w' : World} (h : Ext H w H' w') : ∀ b, Fr H w b → Fr H' w' b ∧ w'.heap[b]? = w.heap[b]? := by
  intro b ⟨hb, hn⟩
  obtain ⟨e, n⟩ := h.keep b hb hn
  exact ⟨⟨Nat.lt_of_lt_of_le hb h.size, n⟩, e⟩
theorem Rep.ext {H H' : Heap} {w w' : World} (h : Ext H w H' w') {t : TV} {x : Value} (r : Rep w (Fr H w) t x) : Rep w' (Fr H' w') t x := r.mono h.fr h.bsz t x
theorem RepL.ext {H H' : Heap} {w w' : World} (h : Ext H w H' w') {t : List TV} {x : List Value} (r : RepL w (Fr H w) t x) : RepL w' (Fr H' w') t x := RepL.mono h.fr h.bsz t x r

theorem HRel.lt {H : Heap} {w : World} (h : HRel H w) {b : Nat} {r : Root} (hb : H b = some r) : b < w.heap.size := by
  have := h b r hb
  rcases Nat.lt_or_ge b w.heap.size with g | g
  · exact g
  · cases r <;> simp only [RootRel, Array.getElem?_eq_none g] at this <;> simp at this

/-- What a walk knows: slots, and blocks that are held. -/
structure AS where
  env : List (Nat × TV)
  H : Heap
/-- What is said of an activation: how many slots, which calls wait for its end, the round of which loop it is, and what is to be shown where the round is left by a jump. -/
structure NT where
  n : Nat
  ds : List Deferred
  rd : Option Nat
  jr : Code → AS → Prop
instance (k : Nat) : OfNat NT k := ⟨⟨k, [], none, fun _ _ => False⟩⟩
@[simp] theorem NT.n_lit (k : Nat) : (OfNat.ofNat k : NT).n = k := rfl

structure Rel (n : NT) (A : AS) (a : Act) (w : World) : Prop where
  defers : a.defers = n.ds
  size : a.tmps.size = n.n
  env : ∀ t v, look A.env t = some v → t < n.n ∧ Rep w (Fr A.H w) v (a.tmps.getD t undef)
  heap : HRel A.H w

/-- Fewer slots, fewer blocks held: as good. -/
def AS.le (A B : AS) : Prop := (∀ t v, look A.env t = some v → look B.env t = some v) ∧ ∀ b r, A.H b = some r → B.H b = some r
theorem RootRel.mono {w : World} {F F' : Nat → Prop} (hF : ∀ b, F b → F' b) {b : Nat} {r : Root} (h : RootRel w F b r) : RootRel w F' b r := by
  have hF' : ∀ b, F b → F' b ∧ w.heap[b]? = w.heap[b]? := fun b h => ⟨hF b h, rfl⟩
  cases r with
  | cells cs => obtain ⟨c, elem, fz, h1, hz, h2, h3⟩ := h; exact ⟨c, elem, fz, h1, hz, h2, RepL.mono hF' (fun _ => Nat.le_refl _) _ _ h3⟩
  | map es => obtain ⟨ms, clock, h1, h2, h3⟩ := h; exact ⟨ms, clock, h1, RepM.mono hF' (fun _ => Nat.le_refl _) _ _ h2, h3⟩
  | strIter s pos => exact h
  | mapB es clock => obtain ⟨ms, h1, h2, h3⟩ := h; exact ⟨ms, h1, RepM.mono hF' (fun _ => Nat.le_refl _) _ _ h2, h3⟩
  | exact o => exact h
  | loop st pend ps asg body n env => obtain ⟨r, h1, h2, h3, h4, h5, h6, h7, h8⟩ := h; exact ⟨r, h1, h2, h3, h4, h5, h6, h7, fun t v hv => ⟨(h8 t v hv).1, Rep.mono hF' (fun _ => Nat.le_refl _) _ _ (h8 t v hv).2⟩⟩
theorem fr_le {H H' : Heap} {w : World} (h : ∀ b r, H b = some r → H' b = some r) : ∀ b, Fr H' w b → Fr H w b := by
  intro b ⟨h1, h2⟩
  refine ⟨h1, ?_⟩
  cases e : H b with
  | none => rfl
  | some r => rw [h b r e] at h2; cases h2
theorem HRel.le {H H' : Heap} {w : World} (h : ∀ b r, H b = some r → H' b = some r) (g : HRel H' w) : HRel H w :=
  fun b r hb => (g b r (h b r hb)).mono (fr_le h)
theorem Rel.le {n : NT} {A B : AS} {a : Act} {w : World} (h : A.le B) (g : Rel n B a w) : Rel n A a w :=
  ⟨g.defers, g.size, fun t v hv => ⟨(g.env t v (h.1 t v hv)).1, Rep.mono (fun b hb => ⟨fr_le h.2 b hb, rfl⟩) (fun _ => Nat.le_refl _) _ _ (g.env t v (h.1 t v hv)).2⟩, g.heap.le h.2⟩
theorem Ext.le {H H1 H' : Heap} {w w' : World} (h : ∀ b r, H1 b = some r → H' b = some r) (g : Ext H w H' w') : Ext H w H1 w' := by
  refine ⟨g.size, fun b hb hn => ?_, g.bsz, g.os, g.tape, g.output, g.drawn⟩
  obtain ⟨e, n⟩ := g.keep b hb hn
  refine ⟨e, ?_⟩
  cases e1 : H1 b with
  | none => rfl
  | some r => rw [h b r e1] at n; cases n
end Go.Abs
