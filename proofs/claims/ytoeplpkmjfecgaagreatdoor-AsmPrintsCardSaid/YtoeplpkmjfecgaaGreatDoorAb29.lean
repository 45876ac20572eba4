import Derived.Test.YtoeplpkmjfecgaaGreatDoorAb27
import Derived.RangeFuncRecord
/- Ranges over functions: yield's contract, a round, the whole loop. -/
namespace Go.Abs
set_option linter.unusedSimpArgs false
set_option linter.unusedVariables false
open Go.RowKit
set_option linter.unusedVariables false
set_option linter.unusedSectionVars false
section
variable {P : Program}
mutual
theorem Rep.monoC {w w' : World} {F F' : Nat → Prop} (hF : ∀ b, F b → F' b ∧ ∀ off, w'.cell? ⟨b, off, none⟩ = w.cell? ⟨b, off, none⟩) (hs : ∀ b, bsz w b ≤ bsz w' b) :
    ∀ (t : TV) (x : Value), Rep w F t x → Rep w' F' t x
  | .s v, x, h => by simpa only [Rep] using h
  | .any, x, h => by simp only [Rep]
  | .agg cs, x, h => by
    simp only [Rep] at h ⊢; obtain ⟨xs, rfl, h⟩ := h; exact ⟨xs, rfl, RepL.monoC hF hs cs _ h⟩
  | .tup cs, x, h => by
    simp only [Rep] at h ⊢; obtain ⟨xs, rfl, h⟩ := h; exact ⟨xs, rfl, RepL.monoC hF hs cs _ h⟩
  | .nils, x, h => by simpa only [Rep] using h
  | .vs k es, x, h => by
    simp only [Rep] at h ⊢; obtain ⟨a, n, cap, rfl, hc, h⟩ := h; exact ⟨a, n, cap, rfl, hc, RepE.monoC hF hs k es a n h⟩
  | .rs b off n k, x, h => by
    simp only [Rep] at h ⊢; obtain ⟨a, cap, rfl, hc, h⟩ := h; exact ⟨a, cap, rfl, hc, h.imp id fun ⟨h1, h2⟩ => ⟨h1, Nat.le_trans h2 (hs b)⟩⟩
  | .fp cs, x, h => by
    simp only [Rep] at h ⊢; obtain ⟨b, off, rfl, hb, h⟩ := h; exact ⟨b, off, rfl, (hF b hb).1, RepC.monoC hF hs (hF b hb).2 cs off h⟩
  | .clo fn f c, x, h => by
    simp only [Rep] at h ⊢; obtain ⟨fs, cs, rfl, h1, h2⟩ := h; exact ⟨fs, cs, rfl, RepL.monoC hF hs f _ h1, RepL.monoC hF hs c _ h2⟩
theorem RepL.monoC {w w' : World} {F F' : Nat → Prop} (hF : ∀ b, F b → F' b ∧ ∀ off, w'.cell? ⟨b, off, none⟩ = w.cell? ⟨b, off, none⟩) (hs : ∀ b, bsz w b ≤ bsz w' b) :
    ∀ (t : List TV) (x : List Value), RepL w F t x → RepL w' F' t x
  | [], x, h => by simpa only [RepL] using h
  | t :: ts, x, h => by
    simp only [RepL] at h ⊢; obtain ⟨y, ys, rfl, h1, h2⟩ := h; exact ⟨y, ys, rfl, Rep.monoC hF hs t y h1, RepL.monoC hF hs ts ys h2⟩
theorem RepC.monoC {w w' : World} {F F' : Nat → Prop} (hF : ∀ b, F b → F' b ∧ ∀ off, w'.cell? ⟨b, off, none⟩ = w.cell? ⟨b, off, none⟩) (hs : ∀ b, bsz w b ≤ bsz w' b) {b : Nat} (hb : ∀ off, w'.cell? ⟨b, off, none⟩ = w.cell? ⟨b, off, none⟩) :
    ∀ (t : List TV) (off : Nat), RepC w F b off t → RepC w' F' b off t
  | [], _, h => by simp only [RepC]
  | t :: ts, off, h => by
    simp only [RepC] at h ⊢; obtain ⟨⟨v, h0, h1⟩, h2⟩ := h
    exact ⟨⟨v, (hb off).trans h0, Rep.monoC hF hs t v h1⟩, RepC.monoC hF hs hb ts (off + 1) h2⟩
theorem RepE.monoC {w w' : World} {F F' : Nat → Prop} (hF : ∀ b, F b → F' b ∧ ∀ off, w'.cell? ⟨b, off, none⟩ = w.cell? ⟨b, off, none⟩) (hs : ∀ b, bsz w b ≤ bsz w' b) (k : Nat) :
    ∀ (es : List (List TV)) (a : Option Addr) (n : Nat), RepE w F a k n es → RepE w' F' a k n es
  | [], _, _, h => by simpa only [RepE] using h
  | e :: es, a, n, h => by
    simp only [RepE] at h ⊢; obtain ⟨b, off, m, rfl, rfl, hb, hl, h1, h2⟩ := h
    exact ⟨b, off, m, rfl, rfl, (hF b hb).1, hl, RepC.monoC hF hs (hF b hb).2 e off h1, RepE.monoC hF hs k es _ m h2⟩
end
theorem RepM.monoC {w w' : World} {F F' : Nat → Prop} (hF : ∀ b, F b → F' b ∧ ∀ off, w'.cell? ⟨b, off, none⟩ = w.cell? ⟨b, off, none⟩) (hs : ∀ b, bsz w b ≤ bsz w' b) :
    ∀ (t : List (Value × TV)) (x : List MapEntry), RepM w F t x → RepM w' F' t x
  | [], x, h => by simpa only [RepM] using h
  | (k, t) :: ts, x, h => by
    simp only [RepM] at h ⊢; obtain ⟨y, ys, rfl, h0, h1, h2⟩ := h; exact ⟨y, ys, rfl, h0, Rep.monoC hF hs t _ h1, RepM.monoC hF hs ts ys h2⟩
theorem RootRel.monoC {w w' : World} {F F' : Nat → Prop} (hF : ∀ b, F b → F' b ∧ ∀ off, w'.cell? ⟨b, off, none⟩ = w.cell? ⟨b, off, none⟩) (hs : ∀ b, bsz w b ≤ bsz w' b) {b : Nat} {r : Root} (hb : w'.heap[b]? = w.heap[b]?) (h : RootRel w F b r) : RootRel w' F' b r := by
  cases r with
  | cells cs => obtain ⟨c, elem, fz, h1, hz, h2, h3⟩ := h; exact ⟨c, elem, fz, hb.trans h1, hz, h2, RepL.monoC hF hs _ _ h3⟩
  | map es => obtain ⟨ms, clock, h1, h2, h3⟩ := h; exact ⟨ms, clock, hb.trans h1, RepM.monoC hF hs _ _ h2, h3⟩
  | strIter s pos => exact hb.trans h
  | mapB es clock => obtain ⟨ms, h1, h2, h3⟩ := h; exact ⟨ms, hb.trans h1, RepM.monoC hF hs _ _ h2, h3⟩
  | exact o => exact hb.trans h
  | loop st pend ps asg body n env => obtain ⟨r, h1, h2, h3, h4, h5, h6, h7, h8⟩ := h; exact ⟨r, hb.trans h1, h2, h3, h4, h5, h6, h7, fun t v hv => ⟨(h8 t v hv).1, Rep.monoC hF hs _ _ (h8 t v hv).2⟩⟩
def isRow : Obj → Bool
  | .cells .. => true
  | _ => false
/-- A block that is no row of cells becomes another such. -/
theorem put_cells {w : World} {l : Nat} {o o' : Obj} (hl : w.heap[l]? = some o) (h1 : isRow o = false) (h2 : isRow o' = false) : (∀ b, b ≠ l → (w.putObj l o').heap[b]? = w.heap[b]?) ∧ (∀ b, bsz w b ≤ bsz (w.putObj l o') b) ∧ ∀ b off, (w.putObj l o').cell? ⟨b, off, none⟩ = w.cell? ⟨b, off, none⟩ := by
  have hlt : l < w.heap.size := (Array.getElem?_eq_some_iff.1 hl).1
  have hn : ∀ b, b ≠ l → (w.putObj l o').heap[b]? = w.heap[b]? := fun b hb => World.putObj_heap_other hb
  have hs : (w.putObj l o').heap[l]? = some o' := World.putObj_heap_same hlt
  refine ⟨hn, fun b => ?_, fun b off => ?_⟩
  · by_cases e : b = l
    · subst e
      unfold bsz
      rw [hl, hs]
      cases o <;> first | exact Nat.zero_le _ | (simp [isRow] at h1)
    · unfold bsz; rw [hn b e]; exact Nat.le_refl _
  · by_cases e : b = l
    · subst e
      simp only [World.cell?, hl, hs]
      cases o <;> cases o' <;> first | rfl | (simp [isRow] at h1; done) | (simp [isRow] at h2; done)
    · simp only [World.cell?, hn b e]
end
section
variable {P : Program} {n : NT} {Z : AS → Prop} {k : List Item} {A : AS}
/-- The loop's record, turned. -/
theorem loop_rel {H : Heap} {w : World} (hh : HRel H w) {l : Nat} {st : LoopState} {pend : Option Code} {ps : Array Tmp} {asg body : Code} {N : Nat} {E : List (Nat × TV)} (hl : H l = some (.loop st pend ps asg body N E)) {r : Loop} (hr : w.heap[l]? = some (.loop r)) (st' : LoopState) (pend' : Option Code) :
    HRel (upd H l (.loop st' pend' ps asg body N E)) (w.putObj l (.loop { r with state := st', pending := pend' })) ∧ Ext H w (upd H l (.loop st' pend' ps asg body N E)) (w.putObj l (.loop { r with state := st', pending := pend' })) := by
  obtain ⟨p1, p2, p3⟩ := put_cells (o' := .loop { r with state := st', pending := pend' }) hr rfl rfl
  have hE : Ext H w (upd H l (.loop st' pend' ps asg body N E)) (w.putObj l (.loop { r with state := st', pending := pend' })) := by
    refine ⟨Nat.le_of_eq World.putObj_size.symm, fun b hb hn => ?_, p2, rfl, rfl, rfl, Nat.le_refl _⟩
    have hne : b ≠ l := by rintro rfl; rw [hl] at hn; cases hn
    exact ⟨p1 b hne, by simp only [upd, if_neg hne]; exact hn⟩
  refine ⟨fun b r' hb => ?_, hE⟩
  by_cases e : b = l
  · subst e
    simp only [upd, if_true, Option.some.injEq] at hb
    subst hb
    obtain ⟨r0, h1, h2, h3, h4, h5, h6, h7, h8⟩ := hh b _ hl
    rw [hr] at h1
    cases h1
    exact ⟨_, World.putObj_heap_same (Array.getElem?_eq_some_iff.1 hr).1, rfl, rfl, h4, h5, h6, h7, fun t v hv => ⟨(h8 t v hv).1, (h8 t v hv).2.ext hE⟩⟩
  · simp only [upd, if_neg e] at hb
    exact (hh b r' hb).ext hE (p1 b e)
/-- The contract of loop l's yield. -/
def YC (P : Program) (l : Nat) (vs : List TV) (H : Heap) (C : TV → Heap → Prop) : Prop :=
  ∀ argv w, RepL w (Fr H w) vs argv → HRel H w → ∃ f tmps asg body, (Instr.yield l argv.toArray).run P w = .ok (.round l f tmps asg body) w ∧
    ∀ (c : Frame) (cs : List Frame), ∃ v w', After C H w v w' ∧ Steps P (lone (Frame.round l f tmps asg body .normal) (c :: cs) w) (lone (c.finish v) cs w')
def yieldOf : TV → Option Nat
  | .s (.func (.yield l) f c) => if f.isEmpty && c.isEmpty then some l else none
  | _ => none
/-- A call of yield. -/
def yStep (P : Program) (o : Oper) (c : Call) (f : Operand) (A : AS) (K : AS → Prop) : Prop :=
  match (evalA A.env f).bind yieldOf, evalL A.env c.args.toList with
  | some l, some vs => ∃ C, YC P l vs A.H C ∧ ∀ r H', C r H' → K ((A.on H').put o.dst r)
  | _, _ => False
theorem yStep_go {o : Oper} {c : Call} {f : Operand} {K : AS → Prop} {l : Nat} {vs : List TV} (hf : (evalA A.env f).bind yieldOf = some l) (hv : evalL A.env c.args.toList = some vs) {C : TV → Heap → Prop} (h : YC P l vs A.H C) (hk : ∀ r H', C r H' → K ((A.on H').put o.dst r)) : yStep P o c f A K := by
  unfold yStep; rw [hf, hv]; exact ⟨C, h, hk⟩
theorem TWP.yield {rd : Option Nat} {ops : Array Oper} {i : Nat} {rest : List Nat} {Q : Option Code → Act → World → Prop} {a : Act} {w : World} {o : Oper} (ho : ops[i]? = some o) (hw : Region.wanted o (yielded ops a.tmps) = true) (hnd : ∀ c, o.op ≠ .defer c)
    {l : Nat} {f : FuncId} {tmps : Array Value} {asg body : Code} (hr : (execOp a.eval o).run P w = .ok (.round l f tmps asg body) w)
    (h : ∀ (c : Frame) (cs : List Frame), ∃ v w', TWP P rd (.inRegion ops rest :: k) Q (a.put o.dst v) w' ∧ Steps P (lone (Frame.round l f tmps asg body .normal) (c :: cs) w) (lone (c.finish v) cs w')) : TWP P rd (.inRegion ops (i :: rest) :: k) Q a w := by
  intro b cs hb hk
  obtain ⟨v, w', ht, hs⟩ := h (b.atR a (.inRegion ops (i :: rest) :: k)) cs
  obtain ⟨j, a', w2, m', z, s, e⟩ := ht b cs hb hk
  have hg := stepGR_op (P := P) (b := b) (k := k) (cs := cs) (w := w) (rest := rest) ho hw
  rw [Oper.semAt_eq _ _ _ hnd] at hg
  have hfin : (b.atR a (.inRegion ops (i :: rest) :: k)).finish v = b.atR (a.put o.dst v) (.inRegion ops rest :: k) := by
    rw [Frame.finish_atR, ho]; rfl
  have henter : step P (lone (b.atR a (.inRegion ops (i :: rest) :: k)) cs w) = .next (lone (Frame.round l f tmps asg body .normal) (b.atR a (.inRegion ops (i :: rest) :: k) :: cs) w) :=
    step_lone_go (by rw [hg]; simp [stepG.apply, hr, Frame.atR])
  rw [hfin] at hs
  exact ⟨j, a', w2, m', z, .head henter (Steps.trans hs s), e⟩
/-- A guarded call of yield. -/
def yG (P : Program) (ops : Array Oper) (o : Oper) (c : Call) (f : Operand) (A : AS) (K : AS → Prop) : Prop :=
  match o.guard with
  | none => yStep P o c f A K
  | some (j, want) => match gdst ops j with
    | some d => match look A.env d with
      | some (.s (.bool t)) => if t = want then yStep P o c f A K else K (A.put o.dst (.s (.tuple #[])))
      | some (.s (.tuple _)) => K (A.put o.dst (.s (.tuple #[])))
      | _ => False
    | none => False
theorem ARun.regionY {ops : Array Oper} {id : Nat} (m : Nat) (o : Oper) (c : Call) (f : Operand) (hm : ops[m]? = some o) (hoc : o.op = .call c) (hcf : c.callee = .value f) (hd : dstOk n.n ops.toList = true)
    (h : aops P ops (fun A1 => yG P ops o c f A1 (aops P ops (ARun P n Z k) (ops.toList.drop (m + 1)))) (ops.toList.take m) A) : ARun P n Z (.code (.region id ops false) :: k) A := by
  intro a w r
  have hdst : ∀ o ∈ ops, ∀ t, o.dst = some t → t < n.n := fun o ho => dstOk_all hd o (by simpa using ho)
  have hmlt : m < ops.size := (Array.getElem?_eq_some_iff.1 hm).1
  have hrange : List.range ops.size = List.range m ++ m :: List.range' (m + 1) (ops.size - (m + 1)) := by
    rw [List.range_eq_range', List.range_eq_range']
    have e : ops.size = m + ((ops.size - (m + 1)) + 1) := by omega
    rw [e, ← List.range'_append_1, Nat.zero_add, List.range'_succ, show m + (ops.size - (m + 1) + 1) - (m + 1) = ops.size - (m + 1) by omega]
  refine TWP.head (k' := .inRegion ops (List.range ops.size) :: k) (fun _ _ => stepR_region) ?_
  rw [hrange]
  have hl1 : (List.range m).map (ops[·]?) = (ops.toList.take m).map some := by
    apply List.ext_getElem
    · simp; omega
    · intro i h1 h2
      simp only [List.length_map, List.length_range] at h1
      simp [show i < ops.size by omega]
  have hl2 : (List.range' (m + 1) (ops.size - (m + 1))).map (ops[·]?) = (ops.toList.drop (m + 1)).map some := by
    apply List.ext_getElem
    · simp
    · intro i h1 h2
      simp only [List.length_map, List.length_range'] at h1
      simp [show m + 1 + i < ops.size by omega]
  refine TWP.ops (dstOk_nd hd) _ _ ?_
  refine aops_run hdst _ _ A a w hl1 r h fun A1 a1 w1 hk1 r1 e1 => ?_
  have hnd := dstOk_nd hd o (Array.mem_of_getElem? hm)
  -- what comes behind the call
  have onw : ∀ A2 a2 w2, aops P ops (ARun P n Z k) (ops.toList.drop (m + 1)) A2 → Rel n A2 a2 w2 → Ext A1.H w1 A2.H w2 →
      TWP P n.rd (.inRegion ops (List.range' (m + 1) (ops.size - (m + 1))) :: k) (fun j a' w' => ∃ A', n.want Z j A' ∧ Rel n A' a' w' ∧ Ext A.H w A'.H w') a2 w2 := fun A2 a2 w2 h2 r2 e2 => by
    have h3 : wpOps P ops (onward (TWP P n.rd (.inRegion ops [] :: k) (fun j a' w' => ∃ A', n.want Z j A' ∧ Rel n A' a' w' ∧ Ext A.H w A'.H w'))) (List.range' (m + 1) (ops.size - (m + 1))) a2 w2 := by
      refine aops_run hdst _ _ A2 a2 w2 hl2 r2 h2 fun A3 a3 w3 hk3 r3 e3 => ?_
      exact TWP.region_end ((hk3 a3 w3 r3).mono fun j a4 w4 ⟨A4, z, r4, e4⟩ => ⟨A4, z, r4, ((e1.trans e2).trans e3).trans e4⟩)
    have h4 := TWP.ops (dstOk_nd hd) _ [] h3
    rwa [List.append_nil] at h4
  have skip : Region.wanted o (yielded ops a1.tmps) = false → aops P ops (ARun P n Z k) (ops.toList.drop (m + 1)) (A1.put o.dst (.s (.tuple #[]))) →
      TWP P n.rd (.inRegion ops (m :: List.range' (m + 1) (ops.size - (m + 1))) :: k) (fun j a' w' => ∃ A', n.want Z j A' ∧ Rel n A' a' w' ∧ Ext A.H w A'.H w') a1 w1 := fun hw h2 => by
    have r2 : Rel n (A1.put o.dst (.s (.tuple #[]))) (a1.put o.dst undef) w1 := r1.put (.refl _ _) r1.heap (hdst o (Array.mem_of_getElem? hm)) (x := undef) (v := .s (.tuple #[])) (by simp only [Rep]; rfl)
    intro b cs hb hk
    have hs := stepR_op_skip (P := P) (b := b) (a := a1) (k := k) (cs := cs) (w := w1) (ops := ops) (i := m) (rest := List.range' (m + 1) (ops.size - (m + 1))) (by rw [hm]; exact hw)
    rw [hm] at hs
    obtain ⟨j, a', w', m', z, s, e⟩ := onw _ _ _ h2 r2 (.refl _ _) b cs hb hk
    exact ⟨j, a', w', m', z, .head hs s, e⟩
  have doit : Region.wanted o (yielded ops a1.tmps) = true → yStep P o c f A1 (aops P ops (ARun P n Z k) (ops.toList.drop (m + 1))) →
      TWP P n.rd (.inRegion ops (m :: List.range' (m + 1) (ops.size - (m + 1))) :: k) (fun j a' w' => ∃ A', n.want Z j A' ∧ Rel n A' a' w' ∧ Ext A.H w A'.H w') a1 w1 := fun hw h2 => by
    unfold yStep at h2
    split at h2
    · rename_i l vs hfl hvs
      obtain ⟨C, hC, hK⟩ := h2
      obtain ⟨fv, hfv, hy⟩ := Option.bind_eq_some_iff.1 hfl
      have hrep := rep_eval r1 hfv
      have hfe : a1.eval f = .func (.yield l) #[] #[] := by
        unfold yieldOf at hy
        split at hy
        · split at hy
          · rename_i he
            cases hy
            simp only [Rep] at hrep
            simp only [Bool.and_eq_true, Array.isEmpty_iff] at he
            rw [hrep, he.1, he.2]
          · cases hy
        · cases hy
      have ra := evalL_run r1 hvs
      obtain ⟨g, tmps, asg, body, hyr, hst⟩ := hC _ w1 ra r1.heap
      have hexec : (execOp a1.eval o).run P w1 = .ok (.round l g tmps asg body) w1 := by
        unfold execOp; simp only [hoc]
        unfold resolve; simp only [hcf, hfe]
        rw [run_ok (w' := w1) (a := ({ target := .fn (.yield l) #[], args := #[] ++ c.args.map a1.eval } : Deferred)) rfl]
        unfold invoke; simp only []
        rw [← hyr]
        congr 2
        apply Array.ext'; simp
      refine TWP.yield hm hw hnd hexec fun c2 cs => ?_
      obtain ⟨v, w', ⟨r', H', hCr, hv, hrel, hE⟩, hsteps⟩ := hst c2 cs
      exact ⟨v, w', onw _ _ _ (hK r' H' hCr) (r1.put hE hrel (hdst o (Array.mem_of_getElem? hm)) hv) hE, hsteps⟩
    · exact h2.elim
  unfold yG at hk1
  split at hk1
  · rename_i hg
    exact doit (by unfold Region.wanted; rw [hg]) hk1
  · rename_i j want hg
    split at hk1
    · rename_i d hgd
      have hyl : ∀ v, look A1.env d = some (.s v) → yielded ops a1.tmps j = (match v with | .bool b => some b | _ => none) := by
        intro v hv
        obtain ⟨h1, h2⟩ := r1.env d _ hv
        simp only [Rep] at h2
        unfold yielded
        unfold gdst at hgd
        rw [hgd]
        simp only [Option.bind_some]
        have hlt : d < a1.tmps.size := by rw [r1.size]; exact h1
        rw [Array.getElem?_eq_getElem hlt]
        have : a1.tmps[d] = v := by rw [← h2]; simp [Array.getD, hlt]
        rw [this]
        cases v <;> rfl
      split at hk1
      · rename_i t ht
        have hy := hyl _ ht
        simp only [] at hy
        split at hk1
        · rename_i e
          exact doit (by unfold Region.wanted; rw [hg]; simp [hy, e]) hk1
        · rename_i e
          exact skip (by unfold Region.wanted; rw [hg]; simp [hy, e]) hk1
      · rename_i t ht
        have hy := hyl _ ht
        simp only [] at hy
        exact skip (by unfold Region.wanted; rw [hg]; simp [hy]) hk1
      · exact hk1.elim
    · exact hk1.elim
theorem yG_go {ops : Array Oper} {o : Oper} {c : Call} {f : Operand} {K : AS → Prop} {j : Nat} {t : Bool} {d : Tmp} (hg : o.guard = some (j, t)) (hd : gdst ops j = some d) (hl : look A.env d = some (.s (.bool t))) (h : yStep P o c f A K) : yG P ops o c f A K := by
  unfold yG
  rw [hg]
  simp only []
  rw [hd]
  simp only []
  rw [hl]
  simp only []
  rw [if_pos trivial]; exact h
theorem yG_plain {ops : Array Oper} {o : Oper} {c : Call} {f : Operand} {K : AS → Prop} (hg : o.guard = none) (h : yStep P o c f A K) : yG P ops o c f A K := by
  unfold yG; rw [hg]; exact h
theorem ARun.beginRound {l : Nat} (hn : n.rd = some l) {pend : Option Code} {ps : Array Tmp} {asg body : Code} {N : Nat} {E : List (Nat × TV)} (hH : A.H l = some (.loop .ready pend ps asg body N E)) (h : ARun P n Z k ⟨A.env, upd A.H l (.loop .busy pend ps asg body N E)⟩) : ARun P n Z (.beginRound :: k) A := by
  intro a w r b cs hb hk
  obtain ⟨lr, h1, h2, h3, _⟩ := r.heap l _ hH
  obtain ⟨hrel, hE⟩ := loop_rel r.heap hH h1 .busy pend
  have e0 : ({ lr with state := .busy, pending := pend } : Loop) = { lr with state := .busy } := by rw [← h3]
  rw [e0] at hrel hE
  have r2 : Rel n ⟨A.env, upd A.H l (.loop .busy pend ps asg body N E)⟩ a (w.putObj l (.loop { lr with state := .busy })) := ⟨r.defers, r.size, fun t v hv => ⟨(r.env t v hv).1, (r.env t v hv).2.ext hE⟩, hrel⟩
  obtain ⟨j, a', w', m', ⟨A', z, r', e'⟩, s, e⟩ := h a _ r2 b cs hb hk
  exact ⟨j, a', w', m', ⟨A', z, r', hE.trans e'⟩, .head (stepR_beginRound (hb.trans hn) (run_beginRound h1 h2)) s, e⟩
/-- What a round leaves. -/
def yDone (l : Nat) (j : Option Code) (C : TV → Heap → Prop) (A : AS) : Prop :=
  ∃ pend ps asg body N E, A.H l = some (.loop .busy pend ps asg body N E) ∧ ∃ H', Sub H' (upd A.H l (.loop (if j.isNone then .ready else .done) j ps asg body N E)) ∧ C (.s (.bool j.isNone)) H'
def setE : List Tmp → List TV → List (Nat × TV) → List (Nat × TV)
  | p :: ps, v :: vs, E => setE ps vs ((p, v) :: E)
  | _, _, E => E
theorem setE_rep {w : World} {F : Nat → Prop} {N : Nat} : ∀ {ps : List Tmp} {vs : List TV} {E : List (Nat × TV)} {xs : List Value} {T : Array Value}, (∀ p ∈ ps, p < N) → T.size = N → (∀ t v, look E t = some v → t < N ∧ Rep w F v (T.getD t undef)) → RepL w F vs xs → vs.length = ps.length →
    ((ps.zip xs).foldl (fun (t : Array Value) p => t.setIfInBounds p.1 p.2) T).size = N ∧ ∀ t v, look (setE ps vs E) t = some v → t < N ∧ Rep w F v (((ps.zip xs).foldl (fun (t : Array Value) p => t.setIfInBounds p.1 p.2) T).getD t undef)
  | [], vs, E, xs, T, hp, hT, hE, hx, hl => by
    have : vs = [] := by simpa using hl
    subst this
    exact ⟨hT, hE⟩
  | p :: ps, v :: vs, E, xs, T, hp, hT, hE, hx, hl => by
    simp only [RepL] at hx
    obtain ⟨y, ys, rfl, h1, h2⟩ := hx
    simp only [List.zip_cons_cons, List.foldl_cons, setE]
    refine setE_rep (fun q hq => hp q (List.mem_cons_of_mem _ hq)) (by simpa using hT) (fun t u hu => ?_) h2 (by simpa using hl)
    simp only [look] at hu
    split at hu
    · rename_i e; cases hu; subst e
      refine ⟨hp _ (by simp), ?_⟩
      have : t < T.size := by rw [hT]; exact hp _ (by simp)
      simp [Array.getD, this]; exact h1
    · rename_i e
      obtain ⟨g1, g2⟩ := hE t u hu
      refine ⟨g1, ?_⟩
      have : (T.setIfInBounds p y).getD t undef = T.getD t undef := by
        simp [Array.getD_eq_getD_getElem?, Array.getElem?_setIfInBounds, Ne.symm e]
      rw [this]; exact g2
  | _ :: _, [], _, _, _, _, _, _, _, hl => by simp at hl
/-- One round: yield's contract out of the loop's body. -/
theorem YC.round {l : Nat} {H : Heap} {vs : List TV} {C : TV → Heap → Prop} {pend : Option Code} {ps : Array Tmp} {asg body : Code} {N : Nat} {E : List (Nat × TV)} (hH : H l = some (.loop .ready pend ps asg body N E)) (hlen : vs.length = ps.toList.length) (hps : ∀ p ∈ ps.toList, p < N)
    (h : ARun P ⟨N, [], some l, fun c => yDone l (some c) C⟩ (yDone l none C) [.code asg, .beginRound, .code body] ⟨setE ps.toList vs E, H⟩) : YC P l vs H C := by
  intro argv w ha hh
  obtain ⟨r, h1, h2, h3, h4, h5, h6, h7, h8⟩ := hh l _ hH
  have hal : argv.length = vs.length := ha.length.symm
  refine ⟨r.fn, _, r.assign, r.body, run_yield h1 (by rw [h4]; simp at hlen ⊢; omega), fun c cs => ?_⟩
  have hfold : (r.params.zip argv.toArray).foldl (fun tmps (x : Tmp × Value) => tmps.setIfInBounds x.1 x.2) r.tmps = (ps.toList.zip argv).foldl (fun (t : Array Value) p => t.setIfInBounds p.1 p.2) r.tmps := by
    rw [← Array.foldl_toList, Array.toList_zip, h4]
  obtain ⟨q1, q2⟩ := setE_rep (T := r.tmps) hps h7 h8 ha hlen
  rw [← hfold] at q1 q2
  have hrel : Rel ⟨N, [], some l, fun c => yDone l (some c) C⟩ ⟨setE ps.toList vs E, H⟩ { tmps := (r.params.zip argv.toArray).foldl (fun tmps (x : Tmp × Value) => tmps.setIfInBounds x.1 x.2) r.tmps, defers := [] } w := ⟨rfl, q1, q2, hh⟩
  obtain ⟨j, a', w', m', ⟨A', z, r', e'⟩, s, e⟩ := h _ w hrel { (default : Frame) with fn := r.fn, kind := .normal, roundOf := some l } (c :: cs) rfl rfl
  have hb0 : Frame.round l r.fn ((r.params.zip argv.toArray).foldl (fun tmps (x : Tmp × Value) => tmps.setIfInBounds x.1 x.2) r.tmps) r.assign r.body .normal = ({ (default : Frame) with fn := r.fn, kind := .normal, roundOf := some l } : Frame).atR { tmps := (r.params.zip argv.toArray).foldl (fun tmps (x : Tmp × Value) => tmps.setIfInBounds x.1 x.2) r.tmps, defers := [] } [.code asg, .beginRound, .code body] := by
    simp [Frame.round, Frame.atR, h5, h6]
  rw [← hb0] at s
  have fin : ∀ (j : Option Code), yDone l j C A' → ∀ lr : Loop, w'.heap[l]? = some (.loop lr) → After C H w (.bool j.isNone) (w'.putObj l (.loop { lr with state := if j.isNone then .ready else .done, pending := j })) := by
    intro j hz lr hlr
    obtain ⟨pend', ps', asg', body', N', E', g1, H', g2, g3⟩ := hz
    obtain ⟨x1, x2⟩ := loop_rel r'.heap g1 hlr (if j.isNone then .ready else .done) j
    exact ⟨_, H', g3, by simp only [Rep], x1.le g2, (e'.trans x2).le g2⟩
  have look : ∀ (j : Option Code), yDone l j C A' → ∃ lr : Loop, w'.heap[l]? = some (.loop lr) := fun j hz => by
    obtain ⟨pend', ps', asg', body', N', E', g1, _⟩ := hz
    obtain ⟨lr, h1, _⟩ := r'.heap l _ g1
    exact ⟨lr, h1⟩
  cases j with
  | none =>
    have e : m' = _ := e
    subst e
    obtain ⟨lr, hlr⟩ := look none z
    exact ⟨_, _, fin none z lr hlr, Steps.trans s (.one (stepR_round_end rfl rfl (run_endRound none hlr)))⟩
  | some c =>
    cases c with
    | ret =>
      obtain ⟨k', e⟩ := e
      subst e
      obtain ⟨lr, hlr⟩ := look (some .ret) z
      exact ⟨_, _, fin (some .ret) z lr hlr, Steps.trans s (.one (stepR_round_ret rfl rfl (run_endRound (some .ret) hlr)))⟩
    | exit id =>
      obtain ⟨k', hx, e⟩ := e
      subst e
      obtain ⟨lr, hlr⟩ := look (some (.exit id)) z
      exact ⟨_, _, fin (some (.exit id)) z lr hlr, Steps.trans s (.one (stepR_round_exit rfl rfl hx (run_endRound (some (.exit id)) hlr)))⟩
    | _ => exact e.elim
theorem AC.intro {H : Heap} {g : FuncId} {fn : Func} {args : List TV} {C : TV → Heap → Prop} (hf : P.funcs[g]? = some fn) (hb : fn.body.isNone = false) (hname : (fn.name == "runtime.NumGoroutine") = false)
    (h : ∀ argv w, RepL w (Fr H w) args argv → HRel H w → Calls P g argv.toArray w fun e w' => ∃ v, e = .returned v ∧ After C H w v w') : AC P g args H C := by
  intro argv w ha hh
  refine .inl ⟨?_, fun cs => ?_⟩
  · unfold callFunc
    rw [run_ok (w' := w) (a := P) rfl]
    simp only [hf, hname, Bool.false_eq_true, if_false, hb]; rfl
  · obtain ⟨e, w', fr, ⟨v, rfl, hA⟩, s⟩ := h argv w ha hh cs
    exact ⟨_, w', fr, ⟨v, rfl, hA⟩, s⟩
theorem AC.callsB {g : FuncId} {fn : Func} {args : List TV} {H : Heap} {C : TV → Heap → Prop} (h : AC P g args H C) (hf : P.funcs[g]? = some fn) (hb : fn.body.isNone = false) (hname : (fn.name == "runtime.NumGoroutine") = false)
    {argv : List Value} {w : World} (ha : RepL w (Fr H w) args argv) (hh : HRel H w) : (callFunc g argv.toArray).run P w = .ok (.enter g argv.toArray) w ∧ Calls P g argv.toArray w fun e w' => ∃ v, e = .returned v ∧ After C H w v w' := by
  have e : (callFunc g argv.toArray).run P w = .ok (.enter g argv.toArray) w := by
    unfold callFunc
    rw [run_ok (w' := w) (a := P) rfl]
    simp only [hf, hname, Bool.false_eq_true, if_false, hb]; rfl
  rcases h argv w ha hh with h | ⟨v, w', h, _⟩
  · exact ⟨e, h.2⟩
  · rw [e] at h; cases h
def dC (D : Nat) : Deferred := { target := .collected D, args := #[] }
def delH (H : Heap) (b : Nat) : Heap := fun x => if x = b then none else H x
/-- A loop over a function. -/
theorem ARun.rangeF {f : Operand} {ps : Array Tmp} {asg body : Code} (hn : n.rd = none) {fv : TV} {g : FuncId} {fs cs0 : List TV} (hf : evalA A.env f = some fv) (hg : whom fv = some (g, fs, cs0)) {fn : Func} (hfn : P.funcs[g]? = some fn) (hfb : fn.body.isNone = false) (hfname : (fn.name == "runtime.NumGoroutine") = false)
    (h : ∀ L, A.H L = none → ∃ C, AC P g (fs ++ [.s (.func (.yield L) #[] #[])] ++ cs0) (upd A.H L (.loop .ready none ps asg body n.n A.env)) C ∧ ∀ r H', C r H' → ∃ st j N' ps' asg' body' E', H' L = some (.loop st j ps' asg' body' N' E') ∧ st ≠ .busy ∧
      ∀ D, ARun P ⟨n.n, dC D :: n.ds, none, n.jr⟩ Z ((j.map Item.code).toList ++ k) ⟨A.env, delH H' L⟩) : ARun P n Z (.code (.rangeFunc f ps asg body) :: k) A := by
  intro a w r b cs hb hk
  have hb' := hb.trans hn
  -- the blocks that are laid
  obtain ⟨d0, d1, d2⟩ := alloc_rel (r := .exact (.deferred (some []))) (o := .deferred (some [])) r.heap fun w' F' hF hs ho => ho
  have hsub0 : ∀ b r', A.H b = some r' → upd A.H w.heap.size (.exact (.deferred (some []))) b = some r' := fun b r' hb => by
    have : b ≠ w.heap.size := by rintro rfl; rw [d0] at hb; cases hb
    simp only [upd, if_neg this]; exact hb
  have hw1 : HRel A.H { w with heap := w.heap.push (.deferred (some [])) } := d1.le hsub0
  have hE1 : Ext A.H w A.H { w with heap := w.heap.push (.deferred (some [])) } := d2.le hsub0
  have hszD : ({ w with heap := w.heap.push (.deferred (some [])) } : World).heap.size = w.heap.size + 1 := by simp
  obtain ⟨l0, l1, l2⟩ := alloc_rel (r := .loop .ready none ps asg body n.n A.env) (o := .loop { state := .ready, pending := none, fn := b.fn, tmps := a.tmps, params := ps, assign := asg, body := body, defers := w.heap.size }) hw1 fun w' F' hF hs ho =>
    ⟨_, ho, rfl, rfl, rfl, rfl, rfl, r.size, fun t v hv => ⟨(r.env t v hv).1, Rep.mono hF hs _ _ ((r.env t v hv).2.ext hE1)⟩⟩
  rw [hszD] at l0 l1 l2
  obtain ⟨C, hC, hK⟩ := h (w.heap.size + 1) l0
  obtain ⟨f1, c1, hfe, r1, r2⟩ := whom_rep (rep_eval r hf) hg
  have hargs : RepL ({ ({ w with heap := w.heap.push (.deferred (some [])) } : World) with heap := (w.heap.push (.deferred (some []))).push (.loop { state := .ready, pending := none, fn := b.fn, tmps := a.tmps, params := ps, assign := asg, body := body, defers := w.heap.size }) } : World) (Fr (upd A.H (w.heap.size + 1) (.loop .ready none ps asg body n.n A.env)) _) (fs ++ [.s (.func (.yield (w.heap.size + 1)) #[] #[])] ++ cs0) (f1.toList ++ [.func (.yield (w.heap.size + 1)) #[] #[]] ++ c1.toList) :=
    (((r1.ext hE1).ext l2).append (by simp only [RepL, Rep]; exact ⟨_, _, rfl, rfl, rfl⟩)).append ((r2.ext hE1).ext l2)
  obtain ⟨hcall, hcalls⟩ := hC.callsB hfn hfb hfname hargs l1
  obtain ⟨e, w2, fr, ⟨v, rfl, r', H', hCr, hv, hrel2, hE2⟩, hsteps, _, hleave⟩ := hcalls (b.atR { a with defers := [dC w.heap.size] ++ a.defers } (.inRangeFunc (w.heap.size + 1) :: k) :: cs)
  obtain ⟨st, j, N', ps', asg', body', E', hL, hst, hgo⟩ := hK r' H' hCr
  obtain ⟨lr, hlr, hlst, hlp, _⟩ := hrel2 _ _ hL
  subst hlp
  obtain ⟨x1, x2⟩ := loop_rel hrel2 hL hlr .exhausted lr.pending
  have hsub3 : ∀ b r', delH H' (w.heap.size + 1) b = some r' → upd H' (w.heap.size + 1) (.loop .exhausted lr.pending ps' asg' body' N' E') b = some r' := fun b r' hb => by
    unfold delH at hb
    split at hb
    · cases hb
    · rename_i hne; simp only [upd, if_neg hne]; exact hb
  have hw3 := x1.le hsub3
  have hE3 := x2.le hsub3
  have hE03 : Ext A.H w (delH H' (w.heap.size + 1)) (w2.putObj (w.heap.size + 1) (.loop { lr with state := .exhausted })) := ((hE1.trans l2).trans hE2).trans hE3
  have rel3 : Rel ⟨n.n, dC w.heap.size :: n.ds, none, n.jr⟩ ⟨A.env, delH H' (w.heap.size + 1)⟩ { a with defers := [dC w.heap.size] ++ a.defers } (w2.putObj (w.heap.size + 1) (.loop { lr with state := .exhausted })) :=
    ⟨by show [dC w.heap.size] ++ a.defers = _; rw [r.defers]; rfl, r.size, fun t u hu => ⟨(r.env t u hu).1, (r.env t u hu).2.ext hE03⟩, hw3⟩
  obtain ⟨j', a', w', m', ⟨A', z, r4, e4⟩, s, he⟩ := hgo w.heap.size _ _ rel3 b cs hb' hk
  -- the first steps
  have hres : (resolve a.eval (rangeCall f (w.heap.size + 1)) 0).run P ((w.alloc (.deferred (some []))).alloc (.loop { state := .ready, pending := none, fn := b.fn, tmps := a.tmps, params := ps, assign := asg, body := body, defers := w.heap.size })) = .ok ({ target := .fn (.func g) c1, args := f1 ++ #[.func (.yield (w.heap.size + 1)) #[] #[]] } : Deferred) ((w.alloc (.deferred (some []))).alloc (.loop { state := .ready, pending := none, fn := b.fn, tmps := a.tmps, params := ps, assign := asg, body := body, defers := w.heap.size })) := by
    have hm : (#[Operand.const (Value.func (.yield (w.heap.size + 1)) #[] #[])] : Array Operand).map a.eval = #[Value.func (.yield (w.heap.size + 1)) #[] #[]] := by simp [Act.eval]
    unfold resolve rangeCall; simp only [hfe, hm]; rfl
  have hargv : (f1 ++ #[Value.func (.yield (w.heap.size + 1)) #[] #[]]) ++ c1 = (f1.toList ++ [Value.func (.yield (w.heap.size + 1)) #[] #[]] ++ c1.toList).toArray := by apply Array.ext'; simp
  have hinv : (invoke (.fn (.func g) c1) (f1 ++ #[Value.func (.yield (w.heap.size + 1)) #[] #[]])).run P ((w.alloc (.deferred (some []))).alloc (.loop { state := .ready, pending := none, fn := b.fn, tmps := a.tmps, params := ps, assign := asg, body := body, defers := w.heap.size })) = .ok (.enter g (f1.toList ++ [Value.func (.yield (w.heap.size + 1)) #[] #[]] ++ c1.toList).toArray) ((w.alloc (.deferred (some []))).alloc (.loop { state := .ready, pending := none, fn := b.fn, tmps := a.tmps, params := ps, assign := asg, body := body, defers := w.heap.size })) := by
    unfold invoke; simp only []; rw [hargv]; exact hcall
  have henter := run_enterLoop_outer (P := P) (w := w) b.fn a.tmps ps asg body
  rw [← hb'] at henter
  have s1 := stepR_rangeFunc (P := P) (b := b) (a := a) (k := k) (cs := cs) (w := w) henter hres hinv
  have s2 := step_leave_returned (c := b.atR { a with defers := [dC w.heap.size] ++ a.defers } (.inRangeFunc (w.heap.size + 1) :: k)) (cs := cs) hleave
  rw [finish_atR_inRangeFunc] at s2
  have s3 := stepR_endRangeFunc (P := P) (b := b) (a := { a with defers := [dC w.heap.size] ++ a.defers }) (k := k) (cs := cs) (run_endLoop hlr (by rw [hlst]; exact hst))
  cases j' with
  | some c => exact he.elim
  | none =>
    obtain ⟨todo, rfl⟩ := he
    -- the mark
    have hD1 : ({ ({ w with heap := w.heap.push (.deferred (some [])) } : World) with heap := (w.heap.push (.deferred (some []))).push (.loop { state := .ready, pending := none, fn := b.fn, tmps := a.tmps, params := ps, assign := asg, body := body, defers := w.heap.size }) } : World).heap[w.heap.size]? = some (.deferred (some [])) := by
      simp [Array.getElem?_push]
    have hDn : upd A.H (w.heap.size + 1) (.loop .ready none ps asg body n.n A.env) w.heap.size = none := by simp only [upd, if_neg (Nat.ne_of_lt (Nat.lt_succ_self w.heap.size))]; exact d0
    obtain ⟨k1, k2⟩ := (hE2.trans hE3).keep w.heap.size (by simp; omega) hDn
    have hlt3 : w.heap.size < (w2.putObj (w.heap.size + 1) (.loop { lr with state := .exhausted })).heap.size := Nat.lt_of_lt_of_le (by simp; omega) (hE2.trans hE3).size
    obtain ⟨k3, k4⟩ := e4.keep w.heap.size hlt3 k2
    have hD : w'.heap[w.heap.size]? = some (.deferred (some [])) := k3.trans (k1.trans hD1)
    obtain ⟨p1, p2, p3⟩ := put_cells (o' := .deferred none) hD rfl rfl
    have s4 := step_collected (P := P) (fr := { b.atR a' todo with mode := .returning }) (cs := cs) (r := w.heap.size) (d := dC w.heap.size) (ds := n.ds) (calls := []) (by simp) r4.defers rfl (run_takeDeferred hD)
    have hF : ∀ b, Fr A'.H w' b → Fr A'.H (w'.putObj w.heap.size (.deferred none)) b ∧ ∀ off, (w'.putObj w.heap.size (.deferred none)).cell? ⟨b, off, none⟩ = w'.cell? ⟨b, off, none⟩ := fun b hb => ⟨⟨by rw [World.putObj_size]; exact hb.1, hb.2⟩, p3 b⟩
    refine ⟨none, { a' with defers := n.ds }, w'.putObj w.heap.size (.deferred none), _, ⟨A', z, ⟨rfl, r4.size, fun t u hu => ⟨(r4.env t u hu).1, Rep.monoC hF p2 _ _ (r4.env t u hu).2⟩, fun b r' hb => ?_⟩, ?_⟩, .head s1 (Steps.trans hsteps (.head s2 (.head s3 (Steps.trans s (.one s4))))), ?_⟩
    · refine RootRel.monoC hF p2 (p1 b ?_) (r4.heap b r' hb)
      rintro rfl; rw [k4] at hb; cases hb
    · have ET := hE03.trans e4
      refine ⟨by rw [World.putObj_size]; exact ET.size, fun b hb hn => ⟨(p1 b (by rintro rfl; exact absurd hb (Nat.lt_irrefl _))).trans (ET.keep b hb hn).1, (ET.keep b hb hn).2⟩, fun b => Nat.le_trans (ET.bsz b) (p2 b), ET.os, ET.tape, ET.output, ET.drawn⟩
    · rw [hn]; exact ⟨todo, rfl⟩
end
end Go.Abs
