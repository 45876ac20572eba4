import Derived.Test.YtephimncnnogfaaDoorAb1
/- Runs: from a place in a function's code to its return (TWP, ARun), and calls (ACalls). -/
namespace Go.Abs
set_option linter.unusedSimpArgs false
set_option linter.unusedVariables false
set_option linter.unusedVariables false
variable {P : Program}

/-- From this place the function comes to its return, with Z behind it. -/
def TWP (P : Program) (k : List Item) (Z : Act → World → Prop) (a : Act) (w : World) : Prop :=
  ∀ (b : Frame) (cs : List Frame), ∃ a' w' todo, Z a' w' ∧ Steps P (lone (b.at a k) cs w) (lone { b.at a' todo with mode := .returning } cs w')

theorem TWP.head {k k' : List Item} {Z : Act → World → Prop} {a : Act} {w : World} (h : ∀ (b : Frame) (cs : List Frame), step P (lone (b.at a k) cs w) = .next (lone (b.at a k') cs w)) (g : TWP P k' Z a w) : TWP P k Z a w :=
  fun b cs => let ⟨a', w', todo, z, s⟩ := g b cs; ⟨a', w', todo, z, .head (h b cs) s⟩
theorem TWP.mono {k : List Item} {Z Z' : Act → World → Prop} {a : Act} {w : World} (g : TWP P k Z a w) (h : ∀ a w, Z a w → Z' a w) : TWP P k Z' a w :=
  fun b cs => let ⟨a', w', todo, z, s⟩ := g b cs; ⟨a', w', todo, h _ _ z, s⟩

/-- Post of a region: its normal end goes on. -/
def onward (P : Program) (k : List Item) (Z : Act → World → Prop) : Exit → Act → World → Prop
  | .normal, a, w => TWP P k Z a w
  | _, _, _ => False

theorem TWP.region {k : List Item} {Z : Act → World → Prop} {a : Act} {w : World} {id : Nat} {ops : Array Oper}
    (h : wpOps P ops (onward P k Z) (List.range ops.size) a w) : TWP P (.code (.region id ops false) :: k) Z a w := by
  intro b cs
  obtain ⟨e, a', w', q, r⟩ := wp_ops _ a w h b k cs
  cases e with
  | normal =>
    obtain ⟨a2, w2, todo, z, s⟩ := q b cs
    exact ⟨a2, w2, todo, z, .head step_region (Steps.trans r s)⟩
  | exit id => exact q.elim
  | goto l => exact q.elim
  | ret => exact q.elim
  | panic c => exact q.elim
  | outgrown => exact q.elim
theorem TWP.region_draw {k : List Item} {Z : Act → World → Prop} {a : Act} {w : World} {id : Nat} {ops : Array Oper}
    (h : ∀ t, wpOps P ops (onward P k Z) (Region.schedule (P.follows .mixedOrders) ops t) a { w with drawn := w.drawn + 1 }) : TWP P (.code (.region id ops true) :: k) Z a w := by
  intro b cs
  obtain ⟨e, a', w', q, r⟩ := wp_ops _ a _ (h _) b k cs
  cases e with
  | normal =>
    obtain ⟨a2, w2, todo, z, s⟩ := q b cs
    exact ⟨a2, w2, todo, z, .head step_region_draw (Steps.trans r s)⟩
  | exit id => exact q.elim
  | goto l => exact q.elim
  | ret => exact q.elim
  | panic c => exact q.elim
  | outgrown => exact q.elim

theorem step_scope' {c : Code} {a : Act} {b : Frame} {k : List Item} {cs : List Frame} {w : World} :
    step P (lone (b.at a (.code (.scope c) :: k)) cs w) = .next (lone (b.at a (.code c :: .inScope c :: k)) cs w) :=
  step_lone_go (by simp [stepG, stepG.exec, Frame.at])
theorem step_inScope' {c : Code} {a : Act} {b : Frame} {k : List Item} {cs : List Frame} {w : World} :
    step P (lone (b.at a (.inScope c :: k)) cs w) = .next (lone (b.at a k) cs w) :=
  step_lone_go (by simp [stepG, stepG.exec, Frame.at])

def cst1 : Value → TV
  | .slice _ 0 0 => .nils
  | v => .s v
def cst : Value → TV
  | .agg cs => .agg (cs.toList.map cst1)
  | .slice _ 0 0 => .nils
  | v => .s v
def evalA (E : List (Nat × TV)) : Operand → Option TV
  | .tmp t => look E t
  | .const v => some (cst v)
  | .global g => some (.s (.pointer (some ⟨g, 0, none⟩)))
  | .func f => some (.s (.func (.func f) #[] #[]))
theorem rep_cst1 (w : World) (F : Nat → Prop) (v : Value) : Rep w F (cst1 v) v := by
  unfold cst1; split
  · simp only [Rep]; exact ⟨_, rfl⟩
  · simp only [Rep]
theorem rep_cst1s (w : World) (F : Nat → Prop) (l : List Value) : RepL w F (l.map cst1) l := by
  induction l with
  | nil => simp only [List.map_nil, RepL]
  | cons v l ih => simp only [List.map_cons, RepL]; exact ⟨v, l, rfl, rep_cst1 w F v, ih⟩
theorem rep_cst (w : World) (F : Nat → Prop) (v : Value) : Rep w F (cst v) v := by
  unfold cst; split
  · simp only [Rep]; exact ⟨_, rfl, rep_cst1s w F _⟩
  · simp only [Rep]; exact ⟨_, rfl⟩
  · simp only [Rep]
theorem rep_eval {n : Nat} {A : AS} {a : Act} {w : World} (h : Rel n A a w) {x : Operand} {v : TV} (hx : evalA A.env x = some v) : Rep w (Fr A.H w) v (a.eval x) := by
  cases x with
  | tmp t => exact (h.env t v hx).2
  | const c => simp only [evalA, Option.some.injEq] at hx; subst hx; exact rep_cst _ _ _
  | global g => simp only [evalA, Option.some.injEq] at hx; subst hx; simp only [Rep]; rfl
  | func f => simp only [evalA, Option.some.injEq] at hx; subst hx; simp only [Rep]; rfl

/-- From this place, whatever the world, as long as it looks so: the return, with Z behind it. -/
def ARun (P : Program) (n : Nat) (Z : AS → Prop) (k : List Item) (A : AS) : Prop :=
  ∀ a w, Rel n A a w → TWP P k (fun a' w' => ∃ A', Z A' ∧ Rel n A' a' w' ∧ Ext A.H w A'.H w') a w
section
variable {n : Nat} {Z : AS → Prop} {k : List Item} {A B : AS}
theorem ARun.weaken (h : ARun P n Z k A) (hle : A.le B) : ARun P n Z k B := fun a w r =>
  (h a w (r.le hle)).mono fun a' w' ⟨A', z, r', e⟩ => ⟨A', z, r', ⟨e.size, fun b hb hn => e.keep b hb (by
    cases e1 : A.H b with
    | none => rfl
    | some r => rw [hle.2 b r e1] at hn; cases hn), e.bsz, e.os, e.tape, e.output, e.drawn⟩⟩
theorem ARun.seq {x y : Code} (h : ARun P n Z (.code x :: .code y :: k) A) : ARun P n Z (.code (.seq x y) :: k) A := fun a w r => (h a w r).head fun _ _ => step_seq
theorem ARun.skip (h : ARun P n Z k A) : ARun P n Z (.code .skip :: k) A := fun a w r => (h a w r).head fun _ _ => step_skip
theorem ARun.label {l : Nat} (h : ARun P n Z k A) : ARun P n Z (.code (.label l) :: k) A := fun a w r => (h a w r).head fun _ _ => step_label
theorem ARun.block {id : Nat} {c : Code} (h : ARun P n Z (.code c :: .inBlock id :: k) A) : ARun P n Z (.code (.block id c) :: k) A := fun a w r => (h a w r).head fun _ _ => step_block
theorem ARun.inBlock {id : Nat} (h : ARun P n Z k A) : ARun P n Z (.inBlock id :: k) A := fun a w r => (h a w r).head fun _ _ => step_inBlock
theorem ARun.loop {c : Code} (h : ARun P n Z (.inLoop c :: k) A) : ARun P n Z (.code (.loop c) :: k) A := by
  intro a w r b cs
  obtain ⟨a', w', todo, z, s⟩ := h a w r b cs
  refine ⟨a', w', todo, z, ?_⟩
  obtain ⟨m, hm⟩ := s
  cases m with
  | zero =>
    simp only [runN, Stepped.next.injEq] at hm
    have := congrArg (fun m => (m.gs[0]?).map fun g => g.frame.mode) hm
    simp [lone, Frame.at] at this
  | succ m =>
    refine ⟨m + 1, ?_⟩
    simp only [runN, step_inLoop, step_loop] at hm ⊢
    exact hm
theorem ARun.inLoop {c : Code} (h : ARun P n Z (.code c :: .inLoop c :: k) A) : ARun P n Z (.inLoop c :: k) A := fun a w r => (h a w r).head fun _ _ => step_inLoop
theorem ARun.scope {c : Code} (h : ARun P n Z (.code c :: .inScope c :: k) A) : ARun P n Z (.code (.scope c) :: k) A := fun a w r => (h a w r).head fun _ _ => step_scope'
theorem ARun.inScope {c : Code} (h : ARun P n Z k A) : ARun P n Z (.inScope c :: k) A := fun a w r => (h a w r).head fun _ _ => step_inScope'
theorem ARun.exit {id : Nat} {k' : List Item} (he : exitTo id k = some k') (h : ARun P n Z k' A) : ARun P n Z (.code (.exit id) :: k) A := fun a w r => (h a w r).head fun _ _ => step_exit he
theorem ARun.goto {id : Nat} {k' : List Item} (he : gotoIn id k = some k') (h : ARun P n Z k' A) : ARun P n Z (.code (.goto id) :: k) A := fun a w r => (h a w r).head fun _ _ => step_goto he
theorem ARun.cond {c : Operand} {x y : Code} {t : Bool} (hc : evalA A.env c = some (.s (.bool t))) (hx : t = true → ARun P n Z (.code x :: k) A) (hy : t = false → ARun P n Z (.code y :: k) A) :
    ARun P n Z (.code (.cond c x y) :: k) A := by
  intro a w r
  have hv := rep_eval r hc
  simp only [Rep] at hv
  refine TWP.head (k' := .code (if t then x else y) :: k) (fun _ _ => step_cond hv) ?_
  cases t
  · exact hy rfl a w r
  · exact hx rfl a w r
theorem ARun.ret (h : Z A) : ARun P n Z (.code .ret :: k) A := fun a w r b cs => ⟨a, w, _, ⟨A, h, r, .refl _ _⟩, .one step_ret⟩
theorem ARun.done (h : Z A) : ARun P n Z [] A := fun a w r b cs => ⟨a, w, _, ⟨A, h, r, .refl _ _⟩, .one step_end⟩
/-- What a walk's simp is not to see. -/
def Later (p : Prop) : Prop := p
theorem Later.go {p : Prop} (h : Later p) : p := h
theorem later {p : Prop} (h : p) : Later p := h
/-- A loop: from each state of a family the loop runs to its end, if it does from all that are nearer to it. -/
theorem ARun.rounds {St : Type} {c : Code} (S : St → AS) (m : St → Nat) (I : St → Prop)
    (round : ∀ s, I s → Later (∀ s', I s' → m s' < m s → ARun P n Z (.inLoop c :: k) (S s')) → ARun P n Z (.code c :: .inLoop c :: k) (S s)) (s : St) (hs : I s) (hle : (S s).le A) :
    ARun P n Z (.code (.loop c) :: k) A := by
  refine ARun.loop (ARun.weaken ?_ hle)
  have key : ∀ N s, m s = N → I s → ARun P n Z (.inLoop c :: k) (S s) := by
    intro N
    induction N using Nat.strongRecOn with
    | _ N ih => intro s hN hs; exact ARun.inLoop (round s hs fun s' hs' hlt => ih (m s') (hN ▸ hlt) s' rfl hs')
  exact key _ s rfl hs
end

end Go.Abs
