import Derived.Test.YtoeplpkmjfecgaaGreatDoorAb1
/- Runs: from a place in a function's code to its return (TWP, ARun), and calls (ACalls). -/
namespace Go.Abs
set_option linter.unusedSimpArgs false
set_option linter.unusedVariables false
set_option linter.unusedVariables false
variable {P : Program}

/-- How a run ends: a function's returns; a round falls off its end, or is left by a jump. -/
def EndAt (rd : Option Nat) (b : Frame) (j : Option Code) (a : Act) (cs : List Frame) (w : World) (m : Machine) : Prop :=
  match rd, j with
  | none, none => ∃ todo, m = lone { b.atR a todo with mode := .returning } cs w
  | none, some _ => False
  | some _, none => m = lone (b.atR a []) cs w
  | some _, some .ret => ∃ k, m = lone (b.atR a (.code .ret :: k)) cs w
  | some _, some (.exit id) => ∃ k, exitTo id k = none ∧ m = lone (b.atR a (.code (.exit id) :: k)) cs w
  | some _, some _ => False
/-- From this place the function (or the round) comes to its end, with Z behind it. -/
def TWP (P : Program) (rd : Option Nat) (k : List Item) (Z : Option Code → Act → World → Prop) (a : Act) (w : World) : Prop :=
  ∀ (b : Frame) (cs : List Frame), b.roundOf = rd → b.kind = .normal → ∃ j a' w' m', Z j a' w' ∧ Steps P (lone (b.atR a k) cs w) m' ∧ EndAt rd b j a' cs w' m'
variable {rd : Option Nat}
theorem TWP.head {k k' : List Item} {Z : Option Code → Act → World → Prop} {a : Act} {w : World} (h : ∀ (b : Frame) (cs : List Frame), step P (lone (b.atR a k) cs w) = .next (lone (b.atR a k') cs w)) (g : TWP P rd k' Z a w) : TWP P rd k Z a w :=
  fun b cs hb hk => let ⟨j, a', w', m', z, s, e⟩ := g b cs hb hk; ⟨j, a', w', m', z, .head (h b cs) s, e⟩
theorem TWP.mono {k : List Item} {Z Z' : Option Code → Act → World → Prop} {a : Act} {w : World} (g : TWP P rd k Z a w) (h : ∀ j a w, Z j a w → Z' j a w) : TWP P rd k Z' a w :=
  fun b cs hb hk => let ⟨j, a', w', m', z, s, e⟩ := g b cs hb hk; ⟨j, a', w', m', h _ _ _ z, s, e⟩

/-- Post of a region: its normal end goes on. -/
def onward (K : Act → World → Prop) : Exit → Act → World → Prop
  | .normal, a, w => K a w
  | _, _, _ => False
theorem foldl_none {Q : Exit → Act → World → Prop} {K : Act → World → Prop} (h : LetsOut (onward K)) : False := by obtain ⟨a, w, q⟩ := h; exact q
/-- Operations of a region, one behind the other, in whatever frame. -/
theorem ops_steps {ops : Array Oper} {K : Act → World → Prop} (hnd : ∀ o ∈ ops, ∀ c, o.op ≠ .defer c) (l r : List Nat) :
    ∀ (a : Act) (w : World), wpOps P ops (onward K) l a w → ∀ (b : Frame) (k : List Item) (cs : List Frame),
      ∃ a' w', K a' w' ∧ Steps P (lone (b.atR a (.inRegion ops (l ++ r) :: k)) cs w) (lone (b.atR a' (.inRegion ops r :: k)) cs w') := by
  induction l with
  | nil => exact fun a w h b k cs => ⟨a, w, h, .refl _ _⟩
  | cons i rest ih =>
    intro a w h b k cs
    simp only [wpOps] at h
    rw [List.cons_append]
    cases ho : ops[i]? with
    | none =>
      simp only [ho] at h
      obtain ⟨a', w', hq, harr⟩ := ih a w h b k cs
      have hs := stepR_op_skip (P := P) (b := b) (a := a) (k := k) (cs := cs) (w := w) (ops := ops) (i := i) (rest := rest ++ r) (by simp [ho])
      simp only [ho, Option.bind_none, Act.put] at hs
      exact ⟨a', w', hq, .head hs harr⟩
    | some o =>
      simp only [ho] at h
      by_cases hw : Region.wanted o (yielded ops a.tmps) = true
      · simp only [hw, if_true] at h
        rcases h with h | ⟨hasks, a₀, w₀, hq⟩
        case inr => exact hq.elim
        simp only [Oper.wp, Oper.upon] at h
        have hg := stepGR_op (P := P) (b := b) (k := k) (cs := cs) (w := w) (rest := rest ++ r) ho hw
        rw [Oper.semAt_eq _ _ _ (hnd o (Array.mem_of_getElem? ho))] at hg
        have hfin : ∀ v, (b.atR a (.inRegion ops (i :: (rest ++ r)) :: k)).finish v = b.atR (a.put o.dst v) (.inRegion ops (rest ++ r) :: k) := by
          intro v; rw [Frame.finish_atR, ho]; rfl
        split at h
        · rename_i v w' hr
          obtain ⟨a', w'', hq, harr⟩ := ih _ _ h b k cs
          refine ⟨a', w'', hq, .head (step_lone_go ?_) harr⟩
          rw [hg, ← hfin]; simp [stepG.apply, hr]
        · rename_i w' hr
          obtain ⟨a', w'', hq, harr⟩ := ih _ _ h b k cs
          refine ⟨a', w'', hq, .head (step_lone_go ?_) harr⟩
          rw [hg, ← hfin]; simp [stepG.apply, hr]
        · rename_i d w' hr
          obtain ⟨a', w'', hq, harr⟩ := ih _ _ h b k cs
          refine ⟨a', w'', hq, .head (step_lone_go ?_) harr⟩
          have : ({ b.atR a (.inRegion ops (i :: (rest ++ r)) :: k) with defers := d :: a.defers } : Frame).finish undef =
              b.atR ({ a with defers := d :: a.defers }.put o.dst undef) (.inRegion ops (rest ++ r) :: k) := by
            have := Frame.finish_atR b { a with defers := d :: a.defers } ops i (rest ++ r) k undef
            rw [ho] at this; exact this
          rw [hg]; simp only [stepG.apply, Sem.runT_eq, hr, GStep.bare_after]
          exact congrArg (fun fr => GStep.go { frame := fr, callers := cs, status := .running, dying := none } w') this
        · rename_i f args w' hr
          obtain ⟨e, w'', fr, hR, hsteps, _, hleave⟩ := h (b.atR a (.inRegion ops (i :: (rest ++ r)) :: k) :: cs)
          have henter : step P (lone (b.atR a (.inRegion ops (i :: (rest ++ r)) :: k)) cs w) =
              .next (lone (Frame.enter P f args .normal) (b.atR a (.inRegion ops (i :: (rest ++ r)) :: k) :: cs) w') :=
            step_lone_go (by rw [hg]; simp [stepG.apply, hr, Frame.atR])
          cases e with
          | returned v =>
            obtain ⟨a', w₃, hq, harr⟩ := ih _ _ hR b k cs
            refine ⟨a', w₃, hq, .head henter (Steps.trans hsteps (.head ?_ harr))⟩
            rw [← hfin]; exact step_leave_returned hleave
          | panicked chain => exact hR.elim
          | outgrown => obtain ⟨_, _, hR⟩ := hR; exact hR.elim
        · rename_i row args w' hr
          obtain ⟨v, w'', hR, hsteps⟩ := h (b.atR a (.inRegion ops (i :: (rest ++ r)) :: k)) cs
          have henter : step P (lone (b.atR a (.inRegion ops (i :: (rest ++ r)) :: k)) cs w) =
              .next (lone (Frame.ofRow P row args .normal) (b.atR a (.inRegion ops (i :: (rest ++ r)) :: k) :: cs) w') :=
            step_lone_go (by rw [hg]; simp [stepG.apply, hr, Frame.atR])
          obtain ⟨a', w₃, hq, harr⟩ := ih _ _ hR b k cs
          refine ⟨a', w₃, hq, .head henter (Steps.trans ?_ harr)⟩
          rw [← hfin]; exact hsteps
        · exact h.elim
        · exact h.elim
      · simp only [hw, if_false, Bool.false_eq_true] at h
        obtain ⟨a', w', hq, harr⟩ := ih _ _ h b k cs
        have hs := stepR_op_skip (P := P) (b := b) (a := a) (k := k) (cs := cs) (w := w) (ops := ops) (i := i) (rest := rest ++ r)
          (by simp [ho]; simpa using hw)
        simp only [ho, Option.bind_some] at hs
        exact ⟨a', w', hq, .head hs harr⟩

theorem TWP.ops {k : List Item} {Z : Option Code → Act → World → Prop} {a : Act} {w : World} {ops : Array Oper} (hnd : ∀ o ∈ ops, ∀ c, o.op ≠ .defer c) (l r : List Nat)
    (h : wpOps P ops (onward (TWP P rd (.inRegion ops r :: k) Z)) l a w) : TWP P rd (.inRegion ops (l ++ r) :: k) Z a w := by
  intro b cs hb hk
  obtain ⟨a', w', q, r⟩ := ops_steps hnd l r a w h b k cs
  obtain ⟨j, a2, w2, m', z, s, e⟩ := q b cs hb hk
  exact ⟨j, a2, w2, m', z, Steps.trans r s, e⟩
theorem TWP.region_end {k : List Item} {Z : Option Code → Act → World → Prop} {a : Act} {w : World} {ops : Array Oper} (h : TWP P rd k Z a w) : TWP P rd (.inRegion ops [] :: k) Z a w := h.head fun _ _ => stepR_region_end
theorem wpOps_onward {ops : Array Oper} {K K' : Act → World → Prop} (h : ∀ a w, K a w → K' a w) : ∀ (l : List Nat) (a : Act) (w : World), wpOps P ops (onward K) l a w → wpOps P ops (onward K') l a w := by
  intro l
  have up : ∀ e a w, onward K e a w → onward K' e a w := fun e a w q => by cases e <;> first | exact h _ _ q | exact q.elim
  have lo : LetsOut (onward K) → LetsOut (onward K') := fun ⟨a, w, q⟩ => q.elim
  induction l with
  | nil => exact fun a w q => h _ _ q
  | cons i l ih =>
    intro a w q
    simp only [wpOps] at q ⊢
    split
    · rename_i e; rw [e] at q; exact ih _ _ q
    · rename_i o e
      rw [e] at q
      simp only [] at q
      split
      · rename_i hw
        rw [if_pos hw] at q
        rcases q with q | ⟨q1, q2⟩
        · refine .inl ?_
          unfold Oper.wp at *
          generalize (execOp a.eval o).run P w = r at *
          cases r with
          | ok n w' =>
            cases n <;> simp only [Oper.upon] at q ⊢ <;>
              first
                | exact ih _ _ q
                | exact Calls.mono q (fun e w'' he => by cases e <;> first | exact ih _ _ he | exact up _ _ _ he | exact lo he)
                | exact Rows.mono q (fun _ _ he => ih _ _ he)
                | exact q
          | halt x w' => cases x <;> simp only [Oper.upon] at q ⊢ <;> exact up _ _ _ q
        · exact .inr ⟨q1, lo q2⟩
      · rename_i hw
        rw [if_neg hw] at q
        exact ih _ _ q
theorem TWP.region {k : List Item} {Z : Option Code → Act → World → Prop} {a : Act} {w : World} {id : Nat} {ops : Array Oper} (hnd : ∀ o ∈ ops, ∀ c, o.op ≠ .defer c)
    (h : wpOps P ops (onward (TWP P rd k Z)) (List.range ops.size) a w) : TWP P rd (.code (.region id ops false) :: k) Z a w := by
  refine TWP.head (k' := .inRegion ops (List.range ops.size) :: k) (fun _ _ => stepR_region) ?_
  rw [← List.append_nil (List.range ops.size)]
  exact TWP.ops hnd _ [] (wpOps_onward (fun a w q => TWP.region_end q) _ _ _ h)
theorem TWP.region_draw {k : List Item} {Z : Option Code → Act → World → Prop} {a : Act} {w : World} {id : Nat} {ops : Array Oper} (hnd : ∀ o ∈ ops, ∀ c, o.op ≠ .defer c)
    (h : ∀ t, wpOps P ops (onward (TWP P rd k Z)) (Region.schedule (P.follows .mixedOrders) ops t) a { w with drawn := w.drawn + 1 }) : TWP P rd (.code (.region id ops true) :: k) Z a w := by
  intro b cs hb hk
  have h1 := h (w.tape w.drawn (.order b.fn id))
  have h2 : TWP P rd (.inRegion ops (Region.schedule (P.follows .mixedOrders) ops (w.tape w.drawn (.order b.fn id))) :: k) Z a { w with drawn := w.drawn + 1 } := by
    rw [← List.append_nil (Region.schedule _ _ _)]
    exact TWP.ops hnd _ [] (wpOps_onward (fun a w q => TWP.region_end q) _ _ _ h1)
  obtain ⟨j, a', w', m', z, s, e⟩ := h2 b cs hb hk
  exact ⟨j, a', w', m', z, .head stepR_region_draw s, e⟩

theorem step_scope' {c : Code} {a : Act} {b : Frame} {k : List Item} {cs : List Frame} {w : World} :
    step P (lone (b.atR a (.code (.scope c) :: k)) cs w) = .next (lone (b.atR a (.code c :: .inScope c :: k)) cs w) :=
  step_lone_go (by simp [stepG, stepG.exec, Frame.atR])
theorem step_inScope' {c : Code} {a : Act} {b : Frame} {k : List Item} {cs : List Frame} {w : World} :
    step P (lone (b.atR a (.inScope c :: k)) cs w) = .next (lone (b.atR a k) cs w) :=
  step_lone_go (by simp [stepG, stepG.exec, Frame.atR])

def cst1 : Value → TV
  | .slice _ 0 0 => .nils
  | v => .s v
def cst : Value → TV
  | .agg cs => .agg (cs.toList.map cst1)
  | .slice _ 0 0 => .nils
  | v => .s v
def evalA (E : List (Nat × TV)) : Operand → Option TV
  | .tmp t => look E t
  | .const v => some (cst v)
  | .global g => some (.s (.pointer (some ⟨g, 0, none⟩)))
  | .func f => some (.s (.func (.func f) #[] #[]))
theorem rep_cst1 (w : World) (F : Nat → Prop) (v : Value) : Rep w F (cst1 v) v := by
  unfold cst1; split
  · simp only [Rep]; exact ⟨_, rfl⟩
  · simp only [Rep]
theorem rep_cst1s (w : World) (F : Nat → Prop) (l : List Value) : RepL w F (l.map cst1) l := by
  induction l with
  | nil => simp only [List.map_nil, RepL]
  | cons v l ih => simp only [List.map_cons, RepL]; exact ⟨v, l, rfl, rep_cst1 w F v, ih⟩
theorem rep_cst (w : World) (F : Nat → Prop) (v : Value) : Rep w F (cst v) v := by
  unfold cst; split
  · simp only [Rep]; exact ⟨_, rfl, rep_cst1s w F _⟩
  · simp only [Rep]; exact ⟨_, rfl⟩
  · simp only [Rep]
theorem rep_eval {n : NT} {A : AS} {a : Act} {w : World} (h : Rel n A a w) {x : Operand} {v : TV} (hx : evalA A.env x = some v) : Rep w (Fr A.H w) v (a.eval x) := by
  cases x with
  | tmp t => exact (h.env t v hx).2
  | const c => simp only [evalA, Option.some.injEq] at hx; subst hx; exact rep_cst _ _ _
  | global g => simp only [evalA, Option.some.injEq] at hx; subst hx; simp only [Rep]; rfl
  | func f => simp only [evalA, Option.some.injEq] at hx; subst hx; simp only [Rep]; rfl

/-- What is to be shown at an end. -/
def NT.want (n : NT) (Z : AS → Prop) : Option Code → AS → Prop
  | none, A => Z A
  | some c, A => n.jr c A
/-- From this place, whatever the world, as long as it looks so: the return, with Z behind it. -/
def ARun (P : Program) (n : NT) (Z : AS → Prop) (k : List Item) (A : AS) : Prop :=
  ∀ a w, Rel n A a w → TWP P n.rd k (fun j a' w' => ∃ A', n.want Z j A' ∧ Rel n A' a' w' ∧ Ext A.H w A'.H w') a w
section
variable {n : NT} {Z : AS → Prop} {k : List Item} {A B : AS}
theorem ARun.weaken (h : ARun P n Z k A) (hle : A.le B) : ARun P n Z k B := fun a w r =>
  (h a w (r.le hle)).mono fun j a' w' ⟨A', z, r', e⟩ => ⟨A', z, r', ⟨e.size, fun b hb hn => e.keep b hb (by
    cases e1 : A.H b with
    | none => rfl
    | some r => rw [hle.2 b r e1] at hn; cases hn), e.bsz, e.os, e.tape, e.output, e.drawn⟩⟩
theorem ARun.seq {x y : Code} (h : ARun P n Z (.code x :: .code y :: k) A) : ARun P n Z (.code (.seq x y) :: k) A := fun a w r => (h a w r).head fun _ _ => stepR_seq
theorem ARun.skip (h : ARun P n Z k A) : ARun P n Z (.code .skip :: k) A := fun a w r => (h a w r).head fun _ _ => stepR_skip
theorem ARun.label {l : Nat} (h : ARun P n Z k A) : ARun P n Z (.code (.label l) :: k) A := fun a w r => (h a w r).head fun _ _ => stepR_label
theorem ARun.block {id : Nat} {c : Code} (h : ARun P n Z (.code c :: .inBlock id :: k) A) : ARun P n Z (.code (.block id c) :: k) A := fun a w r => (h a w r).head fun _ _ => stepR_block
theorem ARun.inBlock {id : Nat} (h : ARun P n Z k A) : ARun P n Z (.inBlock id :: k) A := fun a w r => (h a w r).head fun _ _ => stepR_inBlock
theorem endAt_todo {rd : Option Nat} {b : Frame} {j : Option Code} {a a' : Act} {cs : List Frame} {w w' : World} {c : Code} {k : List Item} (h : EndAt rd b j a' cs w' (lone (b.atR a (.inLoop c :: k)) cs w)) : False := by
  have fr : ∀ {f g : Frame} {cs : List Frame} {w w' : World}, lone f cs w = lone g cs w' → f = g := fun {f g cs w w'} h => by
    have := congrArg (fun m : Machine => m.gs[0]?) h
    simp [lone] at this
    exact this
  unfold EndAt at h
  split at h
  · obtain ⟨todo, h⟩ := h; have := congrArg Frame.mode (fr h); simp [Frame.atR] at this
  · exact h
  · have := congrArg Frame.todo (fr h); simp [Frame.atR] at this
  · obtain ⟨k', h⟩ := h; have := congrArg Frame.todo (fr h); simp [Frame.atR] at this
  · obtain ⟨k', _, h⟩ := h; have := congrArg Frame.todo (fr h); simp [Frame.atR] at this
  · exact h
theorem ARun.loop {c : Code} (h : ARun P n Z (.inLoop c :: k) A) : ARun P n Z (.code (.loop c) :: k) A := by
  intro a w r b cs hb hk
  obtain ⟨j, a', w', m', z, s, e⟩ := h a w r b cs hb hk
  refine ⟨j, a', w', m', z, ?_, e⟩
  obtain ⟨m, hm⟩ := s
  cases m with
  | zero =>
    simp only [runN, Stepped.next.injEq] at hm
    subst hm
    exact (endAt_todo e).elim
  | succ m =>
    refine ⟨m + 1, ?_⟩
    simp only [runN, stepR_inLoop, stepR_loop] at hm ⊢
    exact hm
theorem ARun.inLoop {c : Code} (h : ARun P n Z (.code c :: .inLoop c :: k) A) : ARun P n Z (.inLoop c :: k) A := fun a w r => (h a w r).head fun _ _ => stepR_inLoop
theorem ARun.scope {c : Code} (h : ARun P n Z (.code c :: .inScope c :: k) A) : ARun P n Z (.code (.scope c) :: k) A := fun a w r => (h a w r).head fun _ _ => step_scope'
theorem ARun.inScope {c : Code} (h : ARun P n Z k A) : ARun P n Z (.inScope c :: k) A := fun a w r => (h a w r).head fun _ _ => step_inScope'
theorem ARun.exit {id : Nat} {k' : List Item} (he : exitTo id k = some k') (h : ARun P n Z k' A) : ARun P n Z (.code (.exit id) :: k) A := fun a w r => (h a w r).head fun _ _ => stepR_exit he
theorem ARun.goto {id : Nat} {k' : List Item} (he : gotoIn id k = some k') (h : ARun P n Z k' A) : ARun P n Z (.code (.goto id) :: k) A := fun a w r => (h a w r).head fun _ _ => stepR_goto he
theorem ARun.cond {c : Operand} {x y : Code} {t : Bool} (hc : evalA A.env c = some (.s (.bool t))) (hx : t = true → ARun P n Z (.code x :: k) A) (hy : t = false → ARun P n Z (.code y :: k) A) :
    ARun P n Z (.code (.cond c x y) :: k) A := by
  intro a w r
  have hv := rep_eval r hc
  simp only [Rep] at hv
  refine TWP.head (k' := .code (if t then x else y) :: k) (fun _ _ => stepR_cond hv) ?_
  cases t
  · exact hy rfl a w r
  · exact hx rfl a w r
theorem ARun.retN (h : Z A) (hn : n.rd = none) : ARun P n Z (.code .ret :: k) A := fun a w r b cs hb _ => ⟨none, a, w, _, ⟨A, h, r, .refl _ _⟩, .one (stepR_ret (hb.trans hn)), by rw [hn]; exact ⟨_, rfl⟩⟩
theorem ARun.doneN (h : Z A) (hn : n.rd = none) : ARun P n Z [] A := fun a w r b cs hb _ => ⟨none, a, w, _, ⟨A, h, r, .refl _ _⟩, .one (stepR_end (hb.trans hn)), by rw [hn]; exact ⟨_, rfl⟩⟩
theorem ARun.ret {m : Nat} (h : Z A) : ARun P (OfNat.ofNat m) Z (.code .ret :: k) A := ARun.retN h rfl
theorem ARun.done {m : Nat} (h : Z A) : ARun P (OfNat.ofNat m) Z [] A := ARun.doneN h rfl
theorem ARun.retM {m : Nat} {ds : List Deferred} {jr : Code → AS → Prop} (h : Z A) : ARun P ⟨m, ds, none, jr⟩ Z (.code .ret :: k) A := ARun.retN h rfl
theorem ARun.doneM {m : Nat} {ds : List Deferred} {jr : Code → AS → Prop} (h : Z A) : ARun P ⟨m, ds, none, jr⟩ Z [] A := ARun.doneN h rfl
theorem ARun.doneR {l : Nat} (hn : n.rd = some l) (h : Z A) : ARun P n Z [] A := fun a w r b cs hb _ => ⟨none, a, w, _, ⟨A, h, r, .refl _ _⟩, .refl _ _, by rw [hn]; rfl⟩
theorem ARun.retR {l : Nat} (hn : n.rd = some l) (h : n.jr .ret A) : ARun P n Z (.code .ret :: k) A := fun a w r b cs hb _ => ⟨some .ret, a, w, _, ⟨A, h, r, .refl _ _⟩, .refl _ _, by rw [hn]; exact ⟨k, rfl⟩⟩
theorem ARun.exitR {l id : Nat} (hn : n.rd = some l) (he : exitTo id k = none) (h : n.jr (.exit id) A) : ARun P n Z (.code (.exit id) :: k) A := fun a w r b cs hb _ => ⟨some (.exit id), a, w, _, ⟨A, h, r, .refl _ _⟩, .refl _ _, by rw [hn]; exact ⟨k, he, rfl⟩⟩
/-- What a walk's simp is not to see. -/
def Later (p : Prop) : Prop := p
theorem Later.go {p : Prop} (h : Later p) : p := h
theorem later {p : Prop} (h : p) : Later p := h
/-- A loop: from each state of a family the loop runs to its end, if it does from all that are nearer to it. -/
theorem ARun.rounds {St : Type} {c : Code} (S : St → AS) (m : St → Nat) (I : St → Prop)
    (round : ∀ s, I s → Later (∀ s', I s' → m s' < m s → ARun P n Z (.inLoop c :: k) (S s')) → ARun P n Z (.code c :: .inLoop c :: k) (S s)) (s : St) (hs : I s) (hle : (S s).le A) :
    ARun P n Z (.code (.loop c) :: k) A := by
  refine ARun.loop (ARun.weaken ?_ hle)
  have key : ∀ N s, m s = N → I s → ARun P n Z (.inLoop c :: k) (S s) := by
    intro N
    induction N using Nat.strongRecOn with
    | _ N ih => intro s hN hs; exact ARun.inLoop (round s hs fun s' hs' hlt => ih (m s') (hN ▸ hlt) s' rfl hs')
  exact key _ s rfl hs
end

end Go.Abs
