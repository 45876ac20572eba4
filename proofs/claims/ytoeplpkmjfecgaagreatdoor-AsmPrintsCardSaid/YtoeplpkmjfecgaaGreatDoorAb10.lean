import Derived.Test.YtoeplpkmjfecgaaGreatDoorAb9
import Derived.Orders
/- Regions whose order is open: phases between the operations that change memory; what only reads may stand in any place of its own. -/
namespace Go.Abs
set_option linter.unusedSimpArgs false
set_option linter.unusedVariables false
set_option linter.unusedVariables false
section
variable {P : Program}
theorem evalL_congr {E E' : List (Nat × TV)} : ∀ {xs : List Operand}, (∀ x ∈ xs, evalA E' x = evalA E x) → evalL E' xs = evalL E xs
  | [], _ => rfl
  | x :: xs, h => by simp only [evalL]; rw [h x (by simp), evalL_congr (fun y hy => h y (by simp [hy]))]
theorem evalP_congr {E E' : List (Nat × TV)} : ∀ {xs : List (Nat × Operand)}, (∀ x ∈ xs.map (·.2), evalA E' x = evalA E x) → evalP E' xs = evalP E xs
  | [], _ => rfl
  | (i, x) :: xs, h => by simp only [evalP]; rw [h x (by simp), evalP_congr (fun y hy => h y (by simp at hy ⊢; exact .inr hy))]
theorem intV_congr {E E' : List (Nat × TV)} {d : Int} {o : Option Operand} (h : ∀ x ∈ o.toList, evalA E' x = evalA E x) : intV E' d o = intV E d o := by
  cases o with
  | none => rfl
  | some x => simp only [intV]; rw [h x (by simp)]
theorem sliceA_congr {E E' : List (Nat × TV)} {T : TypeId} {v : TV} {lo hi mx : Option Operand} (h1 : ∀ x ∈ lo.toList, evalA E' x = evalA E x) (h2 : ∀ x ∈ hi.toList, evalA E' x = evalA E x) (h3 : ∀ x ∈ mx.toList, evalA E' x = evalA E x) :
    sliceA P E' T v lo hi mx = sliceA P E T v lo hi mx := by
  unfold sliceA
  cases v <;> simp only [intV_congr h1, intV_congr h2, intV_congr h3]
theorem sliceArrA_congr {E E' : List (Nat × TV)} {H : Heap} {T : TypeId} {v : TV} {lo hi mx : Option Operand} (h1 : ∀ x ∈ lo.toList, evalA E' x = evalA E x) (h2 : ∀ x ∈ hi.toList, evalA E' x = evalA E x) :
    sliceArrA P H E' T v lo hi mx = sliceArrA P H E T v lo hi mx := by
  unfold sliceArrA; simp only [intV_congr h1, intV_congr h2]
theorem valA_congr {E E' : List (Nat × TV)} {H : Heap} {op : Op} (h : ∀ x ∈ op.operands, evalA E' x = evalA E x) : valA P E' H op = valA P E H op := by
  cases op <;> simp only [valA] <;> try rfl
  case move x => exact h x (by simp [Op.operands])
  case assign x => exact h x (by simp [Op.operands])
  case pick c a b => rw [h c (by simp [Op.operands]), h a (by simp [Op.operands]), h b (by simp [Op.operands])]
  case build t ps => 
    unfold buildA
    rw [evalP_congr fun x hx => h x (by simpa [Op.operands] using hx)]
  case load t p => rw [h p (by simp [Op.operands])]
  case nilCheck x => rw [h x (by simp [Op.operands])]
  case binOp op t x y yt => rw [h x (by simp [Op.operands]), h y (by simp [Op.operands])]
  case unOp op t x => rw [h x (by simp [Op.operands])]
  case convert s d x => rw [h x (by simp [Op.operands])]
  case makeFunc fn f c => rw [evalL_congr (fun x hx => h x (by simp only [Op.operands]; exact Array.mem_append.2 (.inl (by simpa using hx)))), evalL_congr (fun x hx => h x (by simp only [Op.operands]; exact Array.mem_append.2 (.inr (by simpa using hx))))]
  case slice t x lo hi mx =>
    rw [h x (by simp [Op.operands])]
    have h1 : ∀ y ∈ lo.toList, evalA E' y = evalA E y := fun y hy => h y (by simp [Op.operands] at hy ⊢; simp [hy])
    have h2 : ∀ y ∈ hi.toList, evalA E' y = evalA E y := fun y hy => h y (by simp [Op.operands] at hy ⊢; simp [hy])
    have h3 : ∀ y ∈ mx.toList, evalA E' y = evalA E y := fun y hy => h y (by simp [Op.operands] at hy ⊢; simp [hy])
    simp only [sliceA_congr h1 h2 h3, sliceArrA_congr h1 h2]
  case fieldAddr t x f => rw [h x (by simp [Op.operands])]
  case field t x f => rw [h x (by simp [Op.operands])]
  case indexAddr t x i => rw [h x (by simp [Op.operands]), h i (by simp [Op.operands])]
  case index t x i => rw [h x (by simp [Op.operands]), h i (by simp [Op.operands])]
  case extract t i => rw [h t (by simp [Op.operands])]
  case call c =>
    obtain ⟨callee, args, ts⟩ := c
    cases callee <;> try rfl
    rename_i b
    cases b <;> try rfl
    simp only []
    split
    · rename_i x T hx hT
      rw [h x (by simp [Op.operands, Call.operands, ← Array.mem_toList_iff, hx])]
    · rfl

def nilOk (P : Program) (t : TypeId) : Bool := match P.underlying t with | some (.slice e) => (szP P e).isSome | _ => false
/-- What may stand anywhere in an open order: what only reads; an empty row, built. -/
def valF (P : Program) (E : List (Nat × TV)) (H : Heap) (op : Op) : Option TV := match op with
  | .buildSlice t n ps => if n = 0 ∧ ps = #[] ∧ nilOk P t = true then some .nils else none
  | op => valA P E H op
theorem valF_eq {E : List (Nat × TV)} {H : Heap} {op : Op} (h : effOp op = false) : valF P E H op = valA P E H op := by
  cases op <;> first | rfl | cases h
theorem valF_congr {E E' : List (Nat × TV)} {H : Heap} {op : Op} (h : ∀ x ∈ op.operands, evalA E' x = evalA E x) : valF P E' H op = valF P E H op := by
  cases op
  case buildSlice t n ps => rfl
  all_goals (simp only [valF]; exact valA_congr h)
theorem valF_run {n : NT} {A : AS} {a : Act} {w : World} (r : Rel n A a w) {o : Oper} {v : TV} (h : valF P A.env A.H o.op = some v) :
    ∃ x w', (execOp a.eval o).run P w = .ok (.value x) w' ∧ Rep w' (Fr A.H w') v x ∧ HRel A.H w' ∧ Ext A.H w A.H w' := by
  obtain ⟨d, op, ty, pos, aft, g⟩ := o
  have base : valA P A.env A.H op = some v → ∃ x w', (execOp a.eval ⟨d, op, ty, pos, aft, g⟩).run P w = .ok (.value x) w' ∧ Rep w' (Fr A.H w') v x ∧ HRel A.H w' ∧ Ext A.H w A.H w' := by
    intro h
    obtain ⟨x, h1, h2⟩ := valA_run (o := ⟨d, op, ty, pos, aft, g⟩) r h
    exact ⟨x, w, h1, h2, r.heap, .refl _ _⟩
  cases op
  case buildSlice t m ps =>
    simp only [valF] at h
    split at h
    · rename_i hc
      obtain ⟨rfl, rfl, hn⟩ := hc
      simp only [Option.some.injEq] at h; subst h
      unfold nilOk at hn
      split at hn
      · rename_i e ht
        obtain ⟨⟨gg, k⟩, hs⟩ := Option.isSome_iff_exists.1 hn
        obtain ⟨h0, h1, h2⟩ := allocCells_rel (elem := e) r.heap (cs := []) (xs := #[]) (by simp only [List.length_nil, List.take_zero, RepL]) (by simp)
        have hsub : ∀ b r, A.H b = some r → upd A.H w.heap.size (.cells []) b = some r := fun b r hb => by
          have : b ≠ w.heap.size := by intro e; subst e; rw [h0] at hb; cases hb
          simp only [upd, if_neg this]; exact hb
        refine ⟨.slice (some ⟨w.heap.size, 0, none⟩) 0 0, _, ?_, ?_, h1.le hsub, h2.le hsub⟩
        · unfold execOp; simp only []
          refine run_v ?_
          unfold Instr.buildSlice
          rw [run_ok (run_under ht)]
          simp only []
          rw [run_ok (run_size hs)]
          have ha : (Array.range 0 : Array Nat) = #[] := by simp
          simp [run_bind, run_pure, Instr.fill, newRow, newObj, Sem.run, ha]
        · simp only [Rep]; exact ⟨_, rfl⟩
      · cases hn
    · cases h
  all_goals exact base h

/-- The value of an operation that only reads; nothing, where its guard says so. -/
def gval (P : Program) (ops : Array Oper) (o : Oper) (E : List (Nat × TV)) (H : Heap) : Option TV :=
  match o.guard with
  | none => valF P E H o.op
  | some (g, want) => match gdst ops g with
    | some D => match look E D with
      | some (.s (.bool t)) => if t = want then valF P E H o.op else some (.s (.tuple #[]))
      | some (.s (.tuple _)) => some (.s (.tuple #[]))
      | _ => none
    | none => none
def fgo (P : Program) (ops : Array Oper) (o : Oper) (A : AS) (k : AS → Prop) : Prop :=
  match o.guard with
  | none => withv (valF P A.env A.H o.op) fun v => k (A.put o.dst v)
  | some (g, true) => onD (gdst ops g) fun D => grd (look A.env D) (withv (valF P A.env A.H o.op) fun v => k (A.put o.dst v)) (k (A.put o.dst (.s (.tuple #[])))) (k (A.put o.dst (.s (.tuple #[]))))
  | some (g, false) => onD (gdst ops g) fun D => grd (look A.env D) (k (A.put o.dst (.s (.tuple #[])))) (withv (valF P A.env A.H o.op) fun v => k (A.put o.dst v)) (k (A.put o.dst (.s (.tuple #[]))))
theorem fgo_val {ops : Array Oper} {o : Oper} {A : AS} {k : AS → Prop} (h : fgo P ops o A k) : ∃ v, gval P ops o A.env A.H = some v ∧ k (A.put o.dst v) := by
  have hv : ∀ {k : TV → Prop}, withv (valF P A.env A.H o.op) k → ∃ v, valF P A.env A.H o.op = some v ∧ k v := by
    intro k h; unfold withv at h; split at h
    · exact ⟨_, by assumption, h⟩
    · exact h.elim
  unfold fgo at h; unfold gval
  split at h
  · rename_i hg; simp only [hg]; exact hv h
  · rename_i g hg; simp only [hg]
    unfold onD at h; split at h
    · rename_i D hD; simp only [hD]
      unfold grd at h; split at h
      · rename_i t ht; simp only [ht]
        cases t
        · simp only [Bool.false_eq_true, if_false]; exact ⟨_, rfl, h.2 rfl⟩
        · simp only [if_true]; exact hv (h.1 rfl)
      · rename_i ht; simp only [ht]; exact ⟨_, rfl, h⟩
      · exact h.elim
    · exact h.elim
  · rename_i g hg; simp only [hg]
    unfold onD at h; split at h
    · rename_i D hD; simp only [hD]
      unfold grd at h; split at h
      · rename_i t ht; simp only [ht]
        cases t
        · simp only [if_true]; exact hv (h.2 rfl)
        · simp only [Bool.true_eq_false, if_false]; exact ⟨_, rfl, h.1 rfl⟩
      · rename_i ht; simp only [ht]; exact ⟨_, rfl, h⟩
      · exact h.elim
    · exact h.elim
/-- An operation that changes memory, with its guard. -/
def cgo (P : Program) (ops : Array Oper) (o : Oper) (A : AS) (k : AS → Prop) : Prop :=
  match o.guard with
  | none => opA P o A k
  | some (g, want) => onD (gdst ops g) fun D => grd (look A.env D) (if want then opA P o A k else k (A.put o.dst (.s (.tuple #[])))) (if want then k (A.put o.dst (.s (.tuple #[]))) else opA P o A k) (k (A.put o.dst (.s (.tuple #[]))))

/-- What stays as it was. -/
def chkA (P : Program) (ops : Array Oper) (A : AS) (j : Nat) : Prop := ∃ o v d, ops[j]? = some o ∧ o.dst = some d ∧ gval P ops o A.env A.H = some v ∧ look A.env d = some v
def chks (P : Program) (ops : Array Oper) (A : AS) : List Nat → Prop
  | [] => True
  | j :: js => chkA P ops A j ∧ chks P ops A js
def news (P : Program) (ops : Array Oper) (k : AS → Prop) : List Nat → AS → Prop
  | [], A => k A
  | j :: js, A => match ops[j]? with
    | some o => fgo P ops o A (news P ops k js)
    | none => False
abbrev Phase := List Nat × List Nat × Option Nat
def dphase (P : Program) (ops : Array Oper) (K : AS → Prop) : List Phase → AS → Prop
  | [], A => False
  | (chk, new, c) :: rest, A => chks P ops A chk ∧ news P ops (fun A => match c with
    | none => K A
    | some i => match ops[i]? with
      | some o => cgo P ops o A (dphase P ops K rest)
      | none => False) new A

def dir (ops : Array Oper) (i j : Nat) : Bool := match ops[i]? with | some o => o.after.any fun e => Region.binds .any e && e.on == j | none => false
def looks (ops : Array Oper) (i : Nat) : List Tmp := match ops[i]? with | some o => o.looksAt ops | none => []
def dstOf (ops : Array Oper) (i : Nat) : Option Tmp := (ops[i]?).bind (·.dst)
def isFl (ops : Array Oper) (i : Nat) : Bool := match ops[i]? with
  | some o => o.dst.isSome && (match o.op with
    | .move _ | .assign _ | .pick .. | .build .. | .load .. | .nilCheck _ | .binOp .. | .unOp .. | .convert .. | .makeFunc .. | .slice .. | .fieldAddr .. | .field .. | .indexAddr .. | .index .. | .extract .. => true
    | .call { callee := .builtin .len, .. } => true
    | .buildSlice _ 0 _ => true
    | _ => false)
  | none => false
def orderOf : List Phase → List Nat
  | [] => []
  | (_, new, c) :: rest => new ++ c.toList ++ orderOf rest
/-- Nobody writes what one ahead has read or written. -/
def safeW (ops : Array Oper) : List Nat → Bool
  | [] => true
  | j :: js => (match dstOf ops j with | some d => !(looks ops j).contains d | none => true) && (js.all fun i => match dstOf ops i with
    | some d => !(looks ops j).contains d && dstOf ops j != some d
    | none => true) && safeW ops js
def linked (ops : Array Oper) (c : Nat) : List Nat → List Nat → Bool
  | _, [] => true
  | seen, j :: js => (dir ops j c || seen.any (dir ops j ·)) && linked ops c (j :: seen) js
/-- Phases in order: ev: what was read so far, c: the last operation that changed memory. -/
def phOk (ops : Array Oper) : List Nat → Option Nat → List Phase → Bool
  | _, _, [] => false
  | ev, pc, (chk, new, c) :: rest =>
    new.all (isFl ops) && (match pc with
      | none => chk == []
      | some p => linked ops p [] (new ++ c.toList) && ev.all (fun j => chk.contains j || dir ops p j)) &&
    (match c with | none => rest == [] | some i => phOk ops (ev ++ new) (some i) rest)
/-- What one ahead has made and this one reads, this one waits for. -/
def fedB (ops : Array Oper) : List Nat → Bool
  | [] => true
  | j :: js => (js.all fun i => match dstOf ops j with
    | some d => !(looks ops i).contains d || dir ops i j
    | none => true) && fedB ops js
def downB (ops : Array Oper) : Bool := ops.toList.zipIdx.all fun (o, i) => o.after.all fun e => !Region.binds .any e || e.on < i
def drawOk (ops : Array Oper) (φ : List Phase) : Bool :=
  Region.noSelect ops && downB ops && (orderOf φ).length == ops.size && (List.range ops.size).all (fun i => (orderOf φ).contains i) && (orderOf φ).all (· < ops.size) && decide (orderOf φ).Nodup && safeW ops (orderOf φ) && fedB ops (orderOf φ) && phOk ops [] none φ

theorem opA0_env {o : Oper} {E E' : List (Nat × TV)} {H : Heap} {K : AS → Prop} (h : ∀ x ∈ o.op.operands, evalA E' x = evalA E x) (hop : opA0 P o ⟨E, H⟩ K) :
    opA0 P o ⟨E', H⟩ (fun B => ∃ v H', B = ((⟨E', H'⟩ : AS).put o.dst v) ∧ K ((⟨E, H'⟩ : AS).put o.dst v)) := by
  obtain ⟨d, op, ty, pos, aft, g⟩ := o
  have dflt : ∀ op : Op, (∀ x ∈ op.operands, evalA E' x = evalA E x) → (match valA P E H op with | some v => K ((⟨E, H⟩ : AS).put d v) | none => False) →
      (match valA P E' H op with | some v => ∃ u H', (⟨E', H⟩ : AS).put d v = ((⟨E', H'⟩ : AS).put d u) ∧ K ((⟨E, H'⟩ : AS).put d u) | none => False) := by
    intro op h hop
    rw [valA_congr h]
    split at hop
    · exact ⟨_, _, rfl, hop⟩
    · exact hop.elim
  cases op
  case box T x =>
    simp only [opA0] at hop ⊢
    rw [h x (by simp [Op.operands])]
    cases hv : evalA E x with
    | none => rw [hv] at hop; exact hop.elim
    | some v =>
      rw [hv] at hop; simp only [] at hop ⊢
      cases hc : cellsT v with
      | none => rw [hc] at hop; exact hop.elim
      | some cs => rw [hc] at hop; exact fun b h1 h2 => ⟨_, _, rfl, hop b h1 h2⟩
  case alloc T =>
    simp only [opA0] at hop ⊢
    cases hc : zeroP P T with
    | none => rw [hc] at hop; exact hop.elim
    | some cs => rw [hc] at hop; exact fun b h1 h2 => ⟨_, _, rfl, hop b h1 h2⟩
  case store T p x =>
    simp only [opA0] at hop ⊢
    rw [h p (by simp [Op.operands]), h x (by simp [Op.operands])]
    split at hop
    · split at hop
      · exact ⟨_, _, rfl, hop⟩
      · exact hop.elim
    · exact hop.elim
  case call c =>
    obtain ⟨callee, args, ts⟩ := c
    cases callee
    case value f =>
      simp only [opA0, callA] at hop ⊢
      rw [h f (by simp [Op.operands, Call.operands]), evalL_congr (fun x hx => h x (by simp only [Op.operands, Call.operands]; exact Array.mem_append.2 (.inr (by simpa using hx))))]
      split at hop
      · split at hop
        · obtain ⟨C, hC, hk⟩ := hop
          exact ⟨C, hC, fun r H' hr => ⟨_, _, rfl, hk r H' hr⟩⟩
        · exact hop.elim
      · exact hop.elim
    all_goals exact dflt _ h hop
  all_goals exact dflt _ h hop

theorem opA_env {o : Oper} {E E' : List (Nat × TV)} {H : Heap} {K : AS → Prop} (h : ∀ x ∈ o.op.operands, evalA E' x = evalA E x) (hop : opA P o ⟨E, H⟩ K) :
    opA P o ⟨E', H⟩ (fun B => ∃ v H', B = ((⟨E', H'⟩ : AS).put o.dst v) ∧ K ((⟨E, H'⟩ : AS).put o.dst v)) := by
  unfold opA at hop ⊢
  split at hop
  · rename_i he
    rw [if_pos he]
    unfold effA at hop ⊢
    simp only [] at hop ⊢
    rw [evalL_congr (fun x hx => h x (by simpa using hx))]
    split at hop
    · obtain ⟨C, hC, hk⟩ := hop
      exact ⟨C, hC, fun r H' hr => ⟨_, _, rfl, hk r H' hr⟩⟩
    · exact hop.elim
  · rename_i he
    rw [if_neg he]
    exact opA0_env h hop

def filt (D : List Nat) (E : List (Nat × TV)) : List (Nat × TV) := E.filter fun p => !D.contains p.1
theorem look_filt (D : List Nat) : ∀ (E : List (Nat × TV)) (t : Nat), look (filt D E) t = if t ∈ D then none else look E t
  | [], t => by simp [filt, look]
  | (a, v) :: E, t => by
    have ih := look_filt D E t
    unfold filt at ih ⊢
    by_cases ha : a ∈ D
    · rw [List.filter_cons_of_neg (by simp [ha]), ih]
      simp only [look]
      by_cases ht : t = a
      · subst ht; simp [ha]
      · rw [if_neg ht]
    · rw [List.filter_cons_of_pos (by simp [ha])]
      simp only [look]
      by_cases ht : t = a
      · subst ht; simp [ha]
      · rw [if_neg ht, if_neg ht, ih]
def pend (ops : Array Oper) (listed : Array Bool) (ev : List Nat) : List Nat := ev.filterMap fun j => if listed.getD j true then none else dstOf ops j
theorem mem_pend {ops : Array Oper} {listed : Array Bool} {ev : List Nat} {t : Nat} : t ∈ pend ops listed ev ↔ ∃ j ∈ ev, listed.getD j true = false ∧ dstOf ops j = some t := by
  unfold pend
  rw [List.mem_filterMap]
  constructor
  · rintro ⟨j, hj, h⟩
    cases hl : listed.getD j true
    · rw [hl] at h; exact ⟨j, hj, hl, by simpa using h⟩
    · rw [hl] at h; simp at h
  · rintro ⟨j, hj, hl, h⟩; exact ⟨j, hj, by rw [hl]; simpa using h⟩

theorem gval_congr {ops : Array Oper} {i : Nat} {o : Oper} (ho : ops[i]? = some o) {E E' : List (Nat × TV)} {H : Heap} (h : ∀ t ∈ looks ops i, look E' t = look E t) : gval P ops o E' H = gval P ops o E H := by
  have hl : looks ops i = o.looksAt ops := by unfold looks; rw [ho]
  rw [hl] at h
  have he : ∀ x ∈ o.op.operands, evalA E' x = evalA E x := by
    intro x hx
    cases x with
    | tmp t => exact h t (List.mem_append_left _ (List.mem_filterMap.2 ⟨.tmp t, by simpa using hx, rfl⟩))
    | _ => rfl
  unfold gval
  cases hg : o.guard with
  | none => exact valF_congr he
  | some gw =>
    obtain ⟨g, want⟩ := gw
    simp only []
    cases hD : gdst ops g with
    | none => rfl
    | some D =>
      have : look E' D = look E D := h D (by unfold Oper.looksAt; rw [hg]; unfold gdst at hD; simp [hD])
      simp only [this, valF_congr he]
theorem opnds {ops : Array Oper} {i : Nat} {o : Oper} (ho : ops[i]? = some o) {E E' : List (Nat × TV)} (h : ∀ t ∈ looks ops i, look E' t = look E t) : ∀ x ∈ o.op.operands, evalA E' x = evalA E x := by
  have hl : looks ops i = o.looksAt ops := by unfold looks; rw [ho]
  rw [hl] at h
  intro x hx
  cases x with
  | tmp t => exact h t (List.mem_append_left _ (List.mem_filterMap.2 ⟨.tmp t, by simpa using hx, rfl⟩))
  | _ => rfl
theorem chkA_congr {ops : Array Oper} {j : Nat} {A B : AS} (hH : B.H = A.H) (h : ∀ t ∈ looks ops j, look B.env t = look A.env t) (hd : ∀ d, dstOf ops j = some d → look B.env d = look A.env d) (hc : chkA P ops A j) : chkA P ops B j := by
  obtain ⟨o, v, d, ho, hod, hv, hl⟩ := hc
  refine ⟨o, v, d, ho, hod, ?_, ?_⟩
  · rw [hH, gval_congr ho h]; exact hv
  · rw [hd d (by unfold dstOf; rw [ho]; exact hod)]; exact hl
theorem chks_mem {ops : Array Oper} {A : AS} : ∀ {js : List Nat}, chks P ops A js → ∀ j ∈ js, chkA P ops A j
  | [], _, j, hj => by cases hj
  | i :: js, h, j, hj => by
    rcases List.mem_cons.1 hj with rfl | hj
    · exact h.1
    · exact chks_mem h.2 j hj
theorem safeW_cons {ops : Array Oper} {j : Nat} {js : List Nat} (h : safeW ops (j :: js) = true) :
    (∀ d, dstOf ops j = some d → d ∉ looks ops j) ∧ (∀ i ∈ js, ∀ d, dstOf ops i = some d → d ∉ looks ops j ∧ dstOf ops j ≠ some d) ∧ safeW ops js = true := by
  simp only [safeW, Bool.and_eq_true, List.all_eq_true] at h
  obtain ⟨⟨h1, h2⟩, h3⟩ := h
  refine ⟨fun d hd => ?_, fun i hi d hd => ?_, h3⟩
  · rw [hd] at h1; simpa using h1
  · have := h2 i hi
    rw [hd] at this; simpa using this
/-- What is read in a phase. -/
theorem news_run {ops : Array Oper} {k : AS → Prop} : ∀ {js : List Nat} {A : AS}, news P ops k js A → (∀ j ∈ js, isFl ops j = true) → safeW ops js = true →
    ∃ B, k B ∧ B.H = A.H ∧ (∀ j ∈ js, chkA P ops B j) ∧ ∀ t, (∀ j ∈ js, dstOf ops j ≠ some t) → look B.env t = look A.env t
  | [], A, h, _, _ => ⟨A, h, rfl, (fun j hj => by cases hj), fun t _ => rfl⟩
  | j :: js, A, h, hf, hs => by
    simp only [news] at h
    split at h
    · rename_i o ho
      obtain ⟨v, hv, hk⟩ := fgo_val h
      have hfj := hf j (by simp)
      unfold isFl at hfj; rw [ho] at hfj; simp only [Bool.and_eq_true] at hfj
      obtain ⟨d, hod⟩ := Option.isSome_iff_exists.1 hfj.1
      have hdj : dstOf ops j = some d := by unfold dstOf; rw [ho]; exact hod
      obtain ⟨s1, s2, s3⟩ := safeW_cons hs
      obtain ⟨B, b1, b2, b3, b4⟩ := news_run hk (fun i hi => hf i (by simp [hi])) s3
      rw [hod] at b2 b4
      have hput : ∀ t, t ≠ d → look (A.put (some d) v).env t = look A.env t := by
        intro t ht; simp only [AS.put, look, if_neg ht]
      refine ⟨B, b1, b2, ?_, fun t ht => ?_⟩
      · intro i hi
        rcases List.mem_cons.1 hi with rfl | hi
        · refine ⟨o, v, d, ho, hod, ?_, ?_⟩
          · rw [show B.H = A.H from b2, gval_congr ho (E := A.env) (fun t ht => ?_)]
            · exact hv
            · rw [b4 t (fun i hi e => (s2 i hi t e).1 ht)]
              exact hput t (fun e => s1 d hdj (e ▸ ht))
          · rw [b4 d (fun i hi e => (s2 i hi d e).2 hdj)]
            simp [AS.put, look]
        · exact b3 i hi
      · rw [b4 t (fun i hi => ht i (by simp [hi]))]
        exact hput t (fun e => ht j (by simp) (e ▸ hdj))
    · exact h.elim

theorem isFl_val {ops : Array Oper} {i : Nat} {o : Oper} (ho : ops[i]? = some o) (hf : isFl ops i = true) : ∃ d, o.dst = some d := by
  unfold isFl at hf; rw [ho] at hf; simp only [Bool.and_eq_true] at hf
  exact Option.isSome_iff_exists.1 hf.1
/-- What stays true while a region's operations come in some order. -/
structure DInv (P : Program) (ops : Array Oper) (n : NT) (ev fut : List Nat) (A : AS) (listed : Array Bool) (a : Act) (w : World) : Prop where
  size : listed.size = ops.size
  later : ∀ j ∈ fut, listed.getD j true = false
  past : ∀ j, j < ops.size → j ∉ ev → j ∉ fut → listed.getD j true = true
  cur : ∀ j ∈ ev, listed.getD j true = false → chkA P ops A j
  rel : Rel n ⟨filt (pend ops listed ev) A.env, A.H⟩ a w

theorem ready_dir {ops : Array Oper} {listed : Array Bool} {i j : Nat} (hs : listed.size = ops.size) (hr : i ∈ Region.ready .any ops listed) (hd : dir ops i j = true) (hj : j < ops.size) : listed.getD j true = true := by
  obtain ⟨_, o, ho, hall⟩ := mem_ready.1 hr
  unfold dir at hd; rw [ho] at hd
  simp only [Array.any_eq_true, Bool.and_eq_true, beq_iff_eq] at hd
  obtain ⟨k, hk, hb, rfl⟩ := hd
  have := hall _ (Array.getElem_mem hk) hb
  rw [Array.getD_eq_getD_getElem?] at this ⊢
  rw [Array.getElem?_eq_getElem (by omega)] at this ⊢
  simpa using this
theorem dir_lt {ops : Array Oper} (h : downB ops = true) {i j : Nat} (hd : dir ops i j = true) : j < i ∧ i < ops.size := by
  unfold dir at hd
  cases ho : ops[i]? with
  | none => rw [ho] at hd; cases hd
  | some o =>
    rw [ho] at hd
    simp only [Array.any_eq_true, Bool.and_eq_true, beq_iff_eq] at hd
    obtain ⟨k, hk, hb, rfl⟩ := hd
    have hi : i < ops.size := (Array.getElem?_eq_some_iff.1 ho).1
    unfold downB at h
    have := List.all_eq_true.1 h (o, i) (by
      rw [List.mem_zipIdx_iff_getElem?]; simpa using ho)
    simp only [Array.all_eq_true, Bool.or_eq_true, Bool.not_eq_true', decide_eq_true_eq] at this
    rcases this k hk with h1 | h1
    · rw [h1] at hb; cases hb
    · exact ⟨h1, hi⟩
/-- Who waits for an operation of a later phase. -/
theorem waits {ops : Array Oper} : ∀ {φ : List Phase} {ev : List Nat} {c : Nat}, phOk ops ev (some c) φ = true → ∀ j ∈ orderOf φ, ∃ i, dir ops j i = true ∧ (i = c ∨ i ∈ orderOf φ)
  | [], ev, c, h, j, hj => by cases hj
  | (chk, new, c') :: rest, ev, c, h, j, hj => by
    simp only [phOk, Bool.and_eq_true] at h
    obtain ⟨⟨h1, h2, h3⟩, h4⟩ := h
    have key : ∀ (l seen : List Nat), linked ops c seen l = true → ∀ j ∈ l, ∃ i, dir ops j i = true ∧ (i = c ∨ i ∈ seen ∨ i ∈ l) := by
      intro l
      induction l with
      | nil => intro seen _ j hj; cases hj
      | cons x l ih =>
        intro seen hl j hj
        simp only [linked, Bool.and_eq_true, Bool.or_eq_true, List.any_eq_true] at hl
        obtain ⟨hx, hl⟩ := hl
        rcases List.mem_cons.1 hj with rfl | hj
        · rcases hx with hx | ⟨i, hi, hx⟩
          · exact ⟨c, hx, .inl rfl⟩
          · exact ⟨i, hx, .inr (.inl hi)⟩
        · obtain ⟨i, hi, hc⟩ := ih _ hl j hj
          refine ⟨i, hi, ?_⟩
          rcases hc with hc | hc | hc
          · exact .inl hc
          · rcases List.mem_cons.1 hc with rfl | hc
            · exact .inr (.inr (by simp))
            · exact .inr (.inl hc)
          · exact .inr (.inr (by simp [hc]))
    simp only [orderOf, List.append_assoc] at hj ⊢
    rw [← List.append_assoc] at hj
    rcases List.mem_append.1 hj with hj2 | hj2
    · obtain ⟨i, hi, hc⟩ := key _ _ h2 j hj2
      refine ⟨i, hi, ?_⟩
      rcases hc with hc | hc | hc
      · exact .inl hc
      · cases hc
      · right; rw [← List.append_assoc]; exact List.mem_append_left _ hc
    · cases c' with
      | none =>
        simp only [beq_iff_eq] at h4; subst h4; cases hj2
      | some c1 =>
        obtain ⟨i, hi, hc⟩ := waits (c := c1) h4 j hj2
        refine ⟨i, hi, .inr ?_⟩
        rcases hc with rfl | hc
        · simp
        · simp [hc]
theorem safeW_apart {ops : Array Oper} : ∀ {l : List Nat}, safeW ops l = true → ∀ (p q : List Nat) (i : Nat), l = p ++ i :: q → (∀ d, dstOf ops i = some d → d ∉ looks ops i) ∧ ∀ j ∈ q, ∀ d, dstOf ops j = some d → d ∉ looks ops i ∧ dstOf ops i ≠ some d
  | [], h, p, q, i, e => by simp at e
  | x :: l, h, [], q, i, e => by
    simp only [List.nil_append, List.cons.injEq] at e; obtain ⟨rfl, rfl⟩ := e
    obtain ⟨h1, h2, _⟩ := safeW_cons h; exact ⟨h1, h2⟩
  | x :: l, h, y :: p, q, i, e => by
    simp only [List.cons_append, List.cons.injEq] at e; obtain ⟨rfl, e⟩ := e
    exact safeW_apart (safeW_cons h).2.2 p q i e
theorem fedB_dir {ops : Array Oper} : ∀ {l : List Nat}, fedB ops l = true → ∀ (p q : List Nat) (j : Nat), l = p ++ j :: q → ∀ i ∈ q, ∀ d, dstOf ops j = some d → d ∈ looks ops i → dir ops i j = true
  | [], h, p, q, i, e => by simp at e
  | x :: l, h, [], q, j, e => by
    simp only [List.nil_append, List.cons.injEq] at e; obtain ⟨rfl, rfl⟩ := e
    simp only [fedB, Bool.and_eq_true, List.all_eq_true] at h
    intro i hi d hd hl
    have := h.1 i hi
    rw [hd] at this
    simp only [Bool.or_eq_true, Bool.not_eq_true'] at this
    rcases this with h1 | h1
    · simp [hl] at h1
    · exact h1
  | x :: l, h, y :: p, q, j, e => by
    simp only [List.cons_append, List.cons.injEq] at e; obtain ⟨rfl, e⟩ := e
    simp only [fedB, Bool.and_eq_true] at h
    exact fedB_dir h.2 p q j e
/-- What is read by an operation that is ready is no more pending. -/
theorem looks_pend {ops : Array Oper} {O : List Nat} (hsafe : safeW ops O = true) (hfed : fedB ops O = true) (hlt : ∀ j ∈ O, j < ops.size) {listed : Array Bool} (hs : listed.size = ops.size) {ev : List Nat} (hev : ∀ j ∈ ev, j ∈ O)
    {i : Nat} (hi : i ∈ O) (hr : i ∈ Region.ready .any ops listed) : ∀ t ∈ looks ops i, t ∉ pend ops listed ev := by
  intro t ht hp
  obtain ⟨j, hj, hl, hd⟩ := mem_pend.1 hp
  by_cases hij : j = i
  · subst hij
    obtain ⟨p, q, e⟩ := List.append_of_mem hi
    exact (safeW_apart hsafe p q j e).1 t hd ht
  · obtain ⟨p, q, e⟩ := List.append_of_mem (hev j hj)
    have hiO := hi
    rw [e] at hiO
    rcases List.mem_append.1 hiO with h1 | h1
    · obtain ⟨p1, p2, e2⟩ := List.append_of_mem h1
      have e' : O = p1 ++ i :: (p2 ++ j :: q) := by rw [e, e2]; simp
      exact ((safeW_apart hsafe p1 _ i e').2 j (by simp) t hd).1 ht
    · rcases List.mem_cons.1 h1 with h1 | h1
      · exact hij h1.symm
      · have := fedB_dir hfed p q j e i h1 t hd ht
        have := ready_dir hs hr this (hlt j (hev j hj))
        rw [this] at hl; cases hl
theorem yielded_look {ops : Array Oper} {n : NT} {A : AS} {a : Act} {w : World} (r : Rel n A a w) {g : Nat} {D : Nat} {v : Value} (hD : gdst ops g = some D) (h : look A.env D = some (.s v)) :
    yielded ops a.tmps g = (match v with | .bool b => some b | _ => none) := by
  obtain ⟨h1, h2⟩ := r.env D _ h
  simp only [Rep] at h2
  unfold yielded; unfold gdst at hD; rw [hD]
  simp only [Option.bind_some]
  have hlt : D < a.tmps.size := by rw [r.size]; exact h1
  rw [Array.getElem?_eq_getElem hlt]
  have : a.tmps[D] = v := by rw [← h2]; simp [Array.getD, hlt]
  rw [this]
  cases v <;> rfl
theorem look_filt_of {D : List Nat} {E : List (Nat × TV)} {t : Nat} (h : t ∉ D) : look (filt D E) t = look E t := by rw [look_filt, if_neg h]
/-- One that only reads, done. -/
theorem fl_run {ops : Array Oper} {n : NT} (hd : ∀ o ∈ ops, ∀ t, o.dst = some t → t < n.n) {A : AS} {a : Act} {w : World} {D : List Nat} (r : Rel n ⟨filt D A.env, A.H⟩ a w) {i : Nat} {o : Oper} {v : TV} {d : Nat} (ho : ops[i]? = some o) (hod : o.dst = some d)
    (hv : gval P ops o A.env A.H = some v) (hl : ∀ t ∈ looks ops i, t ∉ D) {K : Act → World → Prop} {Q : Exit → Act → World → Prop} (hk : ∀ x w', Rel n ⟨(d, v) :: filt D A.env, A.H⟩ (a.put (some d) x) w' → Ext A.H w A.H w' → K (a.put (some d) x) w') : wpOp P ops Q i K a w := by
  have hv' : gval P ops o (filt D A.env) A.H = some v := by rw [gval_congr ho (E := A.env) (fun t ht => look_filt_of (hl t ht))]; exact hv
  have hdn : ∀ t, o.dst = some t → t < n.n := hd o (Array.mem_of_getElem? ho)
  have fin : ∀ {v : TV} {x : Value} {w' : World}, Ext A.H w A.H w' → HRel A.H w' → Rep w' (Fr A.H w') v x → Rel n ⟨(d, v) :: filt D A.env, A.H⟩ (a.put (some d) x) w' := by
    intro v x w' he hh hx
    have := r.put he hh hdn hx
    rw [hod] at this; exact this
  unfold wpOp; simp only [ho]
  have val : valF P (filt D A.env) A.H o.op = some v → (Region.wanted o (yielded ops a.tmps) = true) → (if Region.wanted o (yielded ops a.tmps) = true then o.wp P a w K Q ∨ (o.asks P a w ∧ LetsOut Q) else K (a.put o.dst undef) w) := by
    intro h1 h2
    rw [if_pos h2]
    obtain ⟨x, w', hx, hr, hh, he⟩ := valF_run (P := P) r h1
    left; unfold Oper.wp; rw [hx, Oper.upon_value, hod]; exact hk x w' (fin he hh hr) he
  have skip : v = .s (.tuple #[]) → (¬ Region.wanted o (yielded ops a.tmps) = true) → (if Region.wanted o (yielded ops a.tmps) = true then o.wp P a w K Q ∨ (o.asks P a w ∧ LetsOut Q) else K (a.put o.dst undef) w) := by
    intro h1 h2
    rw [if_neg h2, hod]
    exact hk undef w (fin (.refl _ _) r.heap (by rw [h1]; simp only [Rep]; rfl)) (.refl _ _)
  unfold gval at hv'
  split at hv'
  · rename_i hg; exact val hv' (by unfold Region.wanted; rw [hg])
  · rename_i g want hg
    split at hv'
    · rename_i Dg hD
      split at hv'
      · rename_i t ht
        have hy := yielded_look r hD ht
        simp only [] at hy
        split at hv'
        · rename_i htw; exact val hv' (by unfold Region.wanted; rw [hg]; simp [hy, htw])
        · rename_i htw; simp at hv'; exact skip hv'.symm (by unfold Region.wanted; rw [hg]; simp [hy, htw])
      · rename_i t ht
        have hy := yielded_look r hD ht
        simp only [] at hy
        simp at hv'; exact skip hv'.symm (by unfold Region.wanted; rw [hg]; simp [hy])
      · cases hv'
    · cases hv'
/-- One that changes memory, done. -/
theorem ch_run {ops : Array Oper} {n : NT} (hd : ∀ o ∈ ops, ∀ t, o.dst = some t → t < n.n) {A : AS} {a : Act} {w : World} {D : List Nat} (r : Rel n ⟨filt D A.env, A.H⟩ a w) {i : Nat} {o : Oper} (ho : ops[i]? = some o) {k : AS → Prop}
    (hc : cgo P ops o A k) (hl : ∀ t ∈ looks ops i, t ∉ D) {K : Act → World → Prop} {Q : Exit → Act → World → Prop}
    (hk : ∀ v H' a' w', k ((⟨A.env, H'⟩ : AS).put o.dst v) → Rel n ((⟨filt D A.env, H'⟩ : AS).put o.dst v) a' w' → Ext A.H w H' w' → K a' w') : wpOp P ops Q i K a w := by
  have hdn : ∀ t, o.dst = some t → t < n.n := hd o (Array.mem_of_getElem? ho)
  have hlo : ∀ t ∈ looks ops i, look (filt D A.env) t = look A.env t := fun t ht => look_filt_of (hl t ht)
  unfold wpOp; simp only [ho]
  have go : opA P o A k → o.wp P a w K Q := by
    intro h
    refine opA_run r hdn (opA_env (opnds ho hlo) h) fun B a' w' ⟨v, H', hB, hkk⟩ rB eB => ?_
    subst hB
    have hH : ((⟨filt D A.env, H'⟩ : AS).put o.dst v).H = H' := rfl
    exact hk v H' a' w' hkk rB eB
  have skip : k (A.put o.dst (.s (.tuple #[]))) → K (a.put o.dst undef) w := by
    intro h
    exact hk _ A.H _ _ h (r.put (.refl _ _) r.heap hdn (x := undef) (v := .s (.tuple #[])) (by simp only [Rep]; rfl)) (.refl _ _)
  unfold cgo at hc
  split at hc
  · rename_i hg
    rw [if_pos (by unfold Region.wanted; rw [hg])]; exact .inl (go hc)
  · rename_i g want hg
    unfold onD at hc
    split at hc
    · rename_i Dg hD
      have hDl : look (filt D A.env) Dg = look A.env Dg := hlo Dg (by rw [show looks ops i = o.looksAt ops by unfold looks; rw [ho]]; unfold Oper.looksAt; rw [hg]; unfold gdst at hD; simp [hD])
      unfold grd at hc
      split at hc
      · rename_i t ht
        have hy := yielded_look (ops := ops) r hD (hDl.trans ht)
        simp only [] at hy
        cases t <;> cases want
        · rw [if_pos (by unfold Region.wanted; rw [hg]; simp [hy])]; exact .inl (go (by simpa using hc.2 rfl))
        · rw [if_neg (by unfold Region.wanted; rw [hg]; simp [hy])]; exact skip (by simpa using hc.2 rfl)
        · rw [if_neg (by unfold Region.wanted; rw [hg]; simp [hy])]; exact skip (by simpa using hc.1 rfl)
        · rw [if_pos (by unfold Region.wanted; rw [hg]; simp [hy])]; exact .inl (go (by simpa using hc.1 rfl))
      · rename_i t ht
        have hy := yielded_look (ops := ops) r hD (hDl.trans ht)
        simp only [] at hy
        rw [if_neg (by unfold Region.wanted; rw [hg]; simp [hy])]; exact skip hc
      · exact hc.elim
    · exact hc.elim

/-- How many are still to come. -/
def toCome (ops : Array Oper) (listed : Array Bool) : Nat := ((List.range ops.size).filter fun j => !listed.getD j true).length
theorem toCome_set {ops : Array Oper} {listed : Array Bool} (hs : listed.size = ops.size) {i : Nat} (hi : i < ops.size) (hl : listed.getD i true = false) : toCome ops (listed.setIfInBounds i true) < toCome ops listed := by
  unfold toCome
  have e : ((List.range ops.size).filter fun j => !(listed.setIfInBounds i true).getD j true) = ((List.range ops.size).filter fun j => !listed.getD j true).filter fun j => j != i := by
    rw [List.filter_filter]
    apply List.filter_congr
    intro j hj
    by_cases hij : i = j
    · subst hij; simp
    · rw [getD_set_ne true hij]; simp [Ne.symm hij]
  rw [e]
  rw [List.length_filter_lt_length_iff_exists]
  exact ⟨i, by rw [List.mem_filter]; exact ⟨List.mem_range.2 hi, by simp [hl]⟩, by simp⟩
theorem listed_set {listed : Array Bool} {i j : Nat} (h : i ≠ j) : (listed.setIfInBounds i true).getD j true = listed.getD j true := getD_set_ne true h
theorem listed_self {listed : Array Bool} {i : Nat} : (listed.setIfInBounds i true).getD i true = true := by
  rw [Array.getD_eq_getD_getElem?, Array.getElem?_setIfInBounds]; split
  · split <;> rfl
  · rename_i h; exact absurd rfl h
theorem draw_main {ops : Array Oper} {n : NT} (hd : ∀ o ∈ ops, ∀ t, o.dst = some t → t < n.n) {O : List Nat} (hsafe : safeW ops O = true) (hfed : fedB ops O = true) (hdown : downB ops = true) (hlt : ∀ j ∈ O, j < ops.size) (hnd : O.Nodup) (hall : ∀ j, j < ops.size → j ∈ O)
    {K : AS → Prop} {Q : Exit → Act → World → Prop} {H0 : Heap} {w0 : World} (hQ : ∀ A a w, K A → Rel n A a w → Ext H0 w0 A.H w → Q .normal a w) :
    ∀ (fuel : Nat) (c : Option Nat) (rest : List Phase) (pst ev : List Nat) (A : AS) (listed : Array Bool) (a : Act) (w : World), toCome ops listed ≤ fuel → O = pst ++ (c.toList ++ orderOf rest) → (∀ j ∈ ev, j ∈ pst) →
      (match c with | none => rest = [] | some i => phOk ops ev (some i) rest = true) →
      DInv P ops n ev (c.toList ++ orderOf rest) A listed a w → Ext H0 w0 A.H w →
      (match c with | none => K A | some i => match ops[i]? with | some o => cgo P ops o A (dphase P ops K rest) | none => False) →
      wpAny P .any ops Q fuel listed a w := by
  intro fuel
  have allDone : ∀ (c : Option Nat) (rest : List Phase) (pst ev : List Nat) (A : AS) (listed : Array Bool) (a : Act) (w : World), O = pst ++ (c.toList ++ orderOf rest) → (∀ j ∈ ev, j ∈ pst) → (match c with | none => rest = [] | some i => phOk ops ev (some i) rest = true) →
      DInv P ops n ev (c.toList ++ orderOf rest) A listed a w → Ext H0 w0 A.H w → (match c with | none => K A | some i => match ops[i]? with | some o => cgo P ops o A (dphase P ops K rest) | none => False) →
      (∀ j, j < ops.size → listed.getD j true = true) → Q .normal a w := by
    intro c rest pst ev A listed a w hO hev hph inv hE hcont hl
    cases c with
    | some i =>
      have := inv.later i (by simp)
      rw [hl i (hlt i (by rw [hO]; simp))] at this; cases this
    | none =>
      refine hQ A a w hcont ?_ hE
      have hp : pend ops listed ev = [] := by
        apply List.eq_nil_iff_forall_not_mem.2
        intro t ht
        obtain ⟨j, hj, h1, _⟩ := mem_pend.1 ht
        rw [hl j (hlt j (by rw [hO]; exact List.mem_append_left _ (hev j hj)))] at h1; cases h1
      have := inv.rel
      rw [hp] at this
      have hle : AS.le A ⟨filt [] A.env, A.H⟩ := ⟨fun t v hv => by show look (filt [] A.env) t = some v; rw [look_filt_of (by simp)]; exact hv, fun _ _ h => h⟩
      exact Rel.le hle this
  have noReady : ∀ (listed : Array Bool), listed.size = ops.size → Region.ready .any ops listed = [] → ∀ j, j < ops.size → listed.getD j true = true := by
    intro listed hs hr j
    induction j using Nat.strongRecOn with
    | _ j ih =>
      intro hj
      cases hl : listed.getD j true with
      | true => rfl
      | false =>
        have : j ∈ Region.ready .any ops listed := by
          rw [mem_ready]
          refine ⟨hl, ops[j], by simp [hj], fun e he hb => ?_⟩
          have hdir : dir ops j e.on = true := by
            unfold dir; rw [Array.getElem?_eq_getElem hj]
            simp only [Array.any_eq_true, Bool.and_eq_true, beq_iff_eq]
            obtain ⟨k, hk, hke⟩ := Array.mem_iff_getElem.1 he
            exact ⟨k, hk, by rw [hke]; exact hb, by rw [hke]⟩
          have hlt' := (dir_lt hdown hdir).1
          have := ih e.on hlt' (by omega)
          rw [Array.getD_eq_getD_getElem?] at this ⊢
          rw [Array.getElem?_eq_getElem (by omega)] at this ⊢
          simpa using this
        rw [hr] at this; cases this
  induction fuel with
  | zero =>
    intro c rest pst ev A listed a w hf hO hev hph inv hE hcont
    have hl : ∀ j, j < ops.size → listed.getD j true = true := by
      intro j hj
      cases e : listed.getD j true with
      | true => rfl
      | false =>
        have := toCome_set inv.size hj e; omega
    refine ⟨?_, allDone c rest pst ev A listed a w hO hev hph inv hE hcont hl⟩
    apply List.eq_nil_iff_forall_not_mem.2
    intro j hj
    obtain ⟨h1, o, ho, _⟩ := mem_ready.1 hj
    rw [hl j (Array.getElem?_eq_some_iff.1 ho).1] at h1; cases h1
  | succ fuel ih =>
    intro c rest pst ev A listed a w hf hO hev hph inv hE hcont
    refine ⟨fun hr => allDone c rest pst ev A listed a w hO hev hph inv hE hcont (noReady listed inv.size hr), fun i hi => ?_⟩
    obtain ⟨hil, o, ho, _⟩ := mem_ready.1 hi
    have hin : i < ops.size := (Array.getElem?_eq_some_iff.1 ho).1
    have hiO := hall i hin
    have hlooks := looks_pend hsafe hfed hlt inv.size (ev := ev) (fun j hj => by rw [hO]; exact List.mem_append_left _ (hev j hj)) hiO hi
    have hcount : toCome ops (listed.setIfInBounds i true) ≤ fuel := by
      have := toCome_set inv.size hin hil; omega
    have hdisj : ∀ j ∈ pst, ∀ x ∈ c.toList ++ orderOf rest, j ≠ x := by
      rw [hO] at hnd; exact (List.nodup_append.1 hnd).2.2
    rw [hO] at hiO
    by_cases hifut : i ∈ c.toList ++ orderOf rest
    · cases c with
      | none =>
        simp only [] at hph; subst hph
        simp [orderOf] at hifut
      | some p =>
        simp only [] at hph hcont
        by_cases hip : i = p
        · subst hip
          rw [ho] at hcont
          simp only [] at hcont
          refine ch_run hd inv.rel ho hcont hlooks fun v H' a' w' hk hrel hext => ?_
          cases rest with
          | nil => exact hk.elim
          | cons ph rest =>
            obtain ⟨chk, new, c'⟩ := ph
            obtain ⟨hchks, hnews⟩ := hk
            simp only [phOk, Bool.and_eq_true, List.all_eq_true] at hph
            obtain ⟨⟨hnf, hlinked, hevc⟩, hnext⟩ := hph
            have hO2 : O = pst ++ i :: (new ++ (c'.toList ++ orderOf rest)) := by rw [hO]; simp [orderOf]
            have safe_r : ∀ (l m : List Nat), safeW ops (l ++ m) = true → safeW ops m = true := by
              intro l
              induction l with
              | nil => intro m h; exact h
              | cons x l ih => intro m h; exact ih m (safeW_cons h).2.2
            have safe_l : ∀ (l m : List Nat), safeW ops (l ++ m) = true → safeW ops l = true := by
              intro l
              induction l with
              | nil => intro m h; rfl
              | cons x l ih =>
                intro m h
                simp only [List.cons_append, safeW, Bool.and_eq_true, List.all_eq_true] at h ⊢
                exact ⟨⟨h.1.1, fun y hy => h.1.2 y (List.mem_append_left _ hy)⟩, ih m h.2⟩
            have hsafe_i := safe_r _ _ (hO2 ▸ hsafe)
            have hsafe_new := safe_l _ _ (safeW_cons hsafe_i).2.2
            obtain ⟨B, hB1, hB2, hB3, hB4⟩ := news_run hnews hnf hsafe_new
            have hB2' : B.H = H' := hB2
            have hni : ∀ j, j ∈ new ++ (c'.toList ++ orderOf rest) → i ≠ j := by
              rintro j hj rfl
              rw [hO2] at hnd
              exact (List.nodup_cons.1 (List.nodup_append.1 hnd).2.1).1 hj
            have hlist : ∀ j ∈ new ++ (c'.toList ++ orderOf rest), (listed.setIfInBounds i true).getD j true = false := by
              intro j hj
              rw [listed_set (hni j hj)]
              refine inv.later j ?_
              simp only [orderOf, Option.toList_some, List.singleton_append, List.append_assoc]; exact List.mem_cons_of_mem _ hj
            have apart : ∀ j ∈ ev, ∀ x ∈ i :: (new ++ (c'.toList ++ orderOf rest)), ∀ d, dstOf ops x = some d → d ∉ looks ops j ∧ dstOf ops j ≠ some d := by
              intro j hj x hx d hxd
              obtain ⟨p1, p2, e⟩ := List.append_of_mem (hev j hj)
              have e' : O = p1 ++ j :: (p2 ++ i :: (new ++ (c'.toList ++ orderOf rest))) := by rw [hO2, e]; simp
              exact (safeW_apart hsafe p1 _ j e').2 x (List.mem_append_right _ hx) d hxd
            refine ih c' rest (pst ++ i :: new) (ev ++ new) B _ a' w' hcount (by rw [hO2]; simp) ?_ ?_ ⟨by simp [inv.size], ?_, ?_, ?_, ?_⟩ (by rw [hB2']; exact hE.trans hext) hB1
            · intro j hj
              rcases List.mem_append.1 hj with hj | hj
              · exact List.mem_append_left _ (hev j hj)
              · exact List.mem_append_right _ (List.mem_cons_of_mem _ hj)
            · cases c' with
              | none => simpa using hnext
              | some c1 => exact hnext
            · intro j hj; exact hlist j (List.mem_append_right _ hj)
            · intro j hj h1 h2
              by_cases hij : i = j
              · subst hij; exact listed_self
              · rw [listed_set hij]
                refine inv.past j hj (fun h => h1 (List.mem_append_left _ h)) (fun h => ?_)
                simp only [orderOf, Option.toList_some, List.singleton_append, List.append_assoc, List.mem_cons, List.mem_append] at h h1 h2
                rcases h with h | h | h | h
                · exact hij h.symm
                · exact h1 (.inr h)
                · exact h2 (.inl h)
                · exact h2 (.inr h)
            · intro j hj h1
              rcases List.mem_append.1 hj with hj | hj
              · have hw := hevc j hj
                simp only [Bool.or_eq_true] at hw
                have hji : i ≠ j := fun e => hdisj j (hev j hj) i (by simp) e.symm
                rcases hw with hw | hw
                · refine chkA_congr (A := (⟨A.env, H'⟩ : AS).put o.dst v) hB2 (fun t ht => ?_) (fun d hdj => ?_) (chks_mem hchks j (by simpa using hw))
                  · refine hB4 t fun x hx e => ?_
                    exact (apart j hj x (List.mem_cons_of_mem _ (List.mem_append_left _ hx)) t e).1 ht
                  · refine hB4 d fun x hx e => ?_
                    exact (apart j hj x (List.mem_cons_of_mem _ (List.mem_append_left _ hx)) d e).2 hdj
                · rw [listed_set hji, ready_dir inv.size hi hw (hlt j (by rw [hO]; exact List.mem_append_left _ (hev j hj)))] at h1
                  cases h1
              · exact hB3 j hj
            · have hle : AS.le ⟨filt (pend ops (listed.setIfInBounds i true) (ev ++ new)) B.env, B.H⟩ ((⟨filt (pend ops listed ev) A.env, H'⟩ : AS).put o.dst v) := by
                refine ⟨fun t u hu => ?_, fun b r hb => by rw [← hB2']; exact hb⟩
                have hu' : look (filt (pend ops (listed.setIfInBounds i true) (ev ++ new)) B.env) t = some u := hu
                rw [look_filt] at hu'
                split at hu'
                · cases hu'
                · rename_i hnp
                  rw [hB4 t (fun x hx e => hnp (mem_pend.2 ⟨x, List.mem_append_right _ hx, hlist x (List.mem_append_left _ hx), e⟩))] at hu'
                  have base : ∀ (hne : o.dst ≠ some t), look A.env t = some u → look (filt (pend ops listed ev) A.env) t = some u := by
                    intro hne hA
                    rw [look_filt_of]
                    · exact hA
                    · intro hp
                      obtain ⟨j, hj, h1, h2⟩ := mem_pend.1 hp
                      have hji : i ≠ j := fun e => hdisj j (hev j hj) i (by simp) e.symm
                      exact hnp (mem_pend.2 ⟨j, List.mem_append_left _ hj, by rw [listed_set hji]; exact h1, h2⟩)
                  cases hod : o.dst with
                  | none =>
                    rw [hod] at hu' base
                    exact base (by simp) hu'
                  | some d =>
                    rw [hod] at hu' base
                    simp only [AS.put, look] at hu' ⊢
                    by_cases htd : t = d
                    · rw [if_pos htd] at hu' ⊢; exact hu'
                    · rw [if_neg htd] at hu' ⊢
                      exact base (fun e => htd (Option.some.inj e).symm) hu'
              exact Rel.le hle hrel
        · exfalso
          have hir : i ∈ orderOf rest := by
            rcases List.mem_append.1 hifut with h | h
            · simp at h; exact absurd h hip
            · exact h
          obtain ⟨q, hq, hqc⟩ := waits hph i hir
          have hqf : q ∈ (some p).toList ++ orderOf rest := by
            rcases hqc with rfl | hqc
            · simp
            · exact List.mem_append_right _ hqc
          have h1 := inv.later q hqf
          have h2 := ready_dir inv.size hi hq (hlt q (by rw [hO]; exact List.mem_append_right _ hqf))
          rw [h1] at h2; cases h2
    · have hiev : i ∈ ev := by
        by_cases h : i ∈ ev
        · exact h
        · rw [inv.past i hin h hifut] at hil; cases hil
      obtain ⟨o', v, d, ho', hod, hv, hlk⟩ := inv.cur i hiev hil
      rw [ho] at ho'; simp only [Option.some.injEq] at ho'; subst ho'
      have hdi : dstOf ops i = some d := by unfold dstOf; rw [ho]; exact hod
      refine fl_run hd inv.rel ho hod hv hlooks fun x w' hx he => ?_
      refine ih c rest pst ev A _ _ w' hcount hO hev hph ⟨by simp [inv.size], ?_, ?_, ?_, ?_⟩ (hE.trans he) hcont
      · intro j hj
        have hij : i ≠ j := hdisj i (hev i hiev) j hj
        rw [listed_set hij]; exact inv.later j hj
      · intro j hj h1 h2
        by_cases hij : i = j
        · subst hij; exact listed_self
        · rw [listed_set hij]; exact inv.past j hj h1 h2
      · intro j hj h1
        by_cases hij : i = j
        · subst hij; rw [listed_self] at h1; cases h1
        · rw [listed_set hij] at h1; exact inv.cur j hj h1
      · have hle : AS.le ⟨filt (pend ops (listed.setIfInBounds i true) ev) A.env, A.H⟩ ⟨(d, v) :: filt (pend ops listed ev) A.env, A.H⟩ := by
          refine ⟨fun t u hu => ?_, fun _ _ h => h⟩
          have hu' : look (filt (pend ops (listed.setIfInBounds i true) ev) A.env) t = some u := hu
          rw [look_filt] at hu'
          split at hu'
          · cases hu'
          · rename_i hnp
            show look ((d, v) :: filt (pend ops listed ev) A.env) t = some u
            simp only [look]
            by_cases htd : t = d
            · subst htd; rw [hlk] at hu'; rw [if_pos rfl]; exact hu'
            · rw [if_neg htd, look_filt_of]
              · exact hu'
              · intro hp
                obtain ⟨j, hj, h1, h2⟩ := mem_pend.1 hp
                refine hnp (mem_pend.2 ⟨j, hj, ?_, h2⟩)
                have hij : i ≠ j := by rintro rfl; rw [hdi] at h2; simp at h2; exact htd h2.symm
                rw [listed_set hij]; exact h1
        exact Rel.le hle hx
theorem ARun.draw {ops : Array Oper} {n : NT} {Z : AS → Prop} {k : List Item} {A : AS} {id : Nat} (hm : P.follows .mixedOrders = true) (φ : List Phase) (hok : drawOk ops φ = true) (hdst : dstOk n.n ops.toList = true)
    (h : dphase P ops (ARun P n Z k) φ A) : ARun P n Z (.code (.region id ops true) :: k) A := by
  intro a w r
  simp only [drawOk, Bool.and_eq_true, List.all_eq_true, decide_eq_true_eq] at hok
  obtain ⟨⟨⟨⟨⟨⟨⟨⟨h1, h2⟩, h3⟩, h4⟩, h5⟩, h6⟩, h7⟩, h8⟩, h9⟩ := hok
  refine TWP.region_draw (dstOk_nd hdst) fun t => ?_
  simp only [Region.schedule, hm, Bool.true_or, if_true]
  refine wpAny_sound ops.size t _ a _ ?_
  cases φ with
  | nil => exact h.elim
  | cons ph rest =>
    obtain ⟨chk, new, c⟩ := ph
    obtain ⟨hchks, hnews⟩ := h
    simp only [phOk, Bool.and_eq_true, List.all_eq_true] at h9
    obtain ⟨⟨hnf, _⟩, hnext⟩ := h9
    have hO : orderOf ((chk, new, c) :: rest) = new ++ (c.toList ++ orderOf rest) := by simp [orderOf]
    rw [hO] at h3 h4 h5 h6 h7 h8
    have safe_l : ∀ (l m : List Nat), safeW ops (l ++ m) = true → safeW ops l = true := by
      intro l
      induction l with
      | nil => intro m h; rfl
      | cons x l ih =>
        intro m h
        simp only [List.cons_append, safeW, Bool.and_eq_true, List.all_eq_true] at h ⊢
        exact ⟨⟨h.1.1, fun y hy => h.1.2 y (List.mem_append_left _ hy)⟩, ih m h.2⟩
    obtain ⟨B, hB1, hB2, hB3, hB4⟩ := news_run hnews (fun j hj => hnf j hj) (safe_l _ _ h7)
    have hnone : ∀ j, j < ops.size → (Array.replicate ops.size false).getD j true = false := by
      intro j hj; simp [Array.getD_eq_getD_getElem?, hj]
    have hlt : ∀ j ∈ new ++ (c.toList ++ orderOf rest), j < ops.size := fun j hj => by simpa using h5 j hj
    have hdr : Rel n A a { w with drawn := w.drawn + 1 } :=
      ⟨r.defers, r.size, fun t v hv => ⟨(r.env t v hv).1, Rep.mono (w := w) (w' := { w with drawn := w.drawn + 1 }) (F := Fr A.H w) (F' := Fr A.H { w with drawn := w.drawn + 1 }) (fun b hb => ⟨hb, rfl⟩) (fun b => Nat.le_refl _) _ _ (r.env t v hv).2⟩,
        fun b rr hb => RootRel.ext (w := w) (H := A.H) ⟨Nat.le_refl _, fun _ _ h => ⟨rfl, h⟩, fun _ => Nat.le_refl _, rfl, rfl, rfl, dr_succ _⟩ rfl (r.heap b rr hb)⟩
    refine draw_main (P := P) (n := n) (O := new ++ (c.toList ++ orderOf rest)) (fun o ho => dstOk_all hdst o (by simpa using ho)) h7 h8 h2 hlt h6 (fun j hj => by simpa using h4 j (List.mem_range.2 hj))
      (K := ARun P n Z k) (H0 := A.H) (w0 := { w with drawn := w.drawn + 1 }) ?_ ops.size c rest new new B _ a _ ?_ rfl (fun j hj => hj) ?_ ⟨by simp, ?_, ?_, ?_, ?_⟩ ?_ hB1
    · intro A' a' w' hk r' e
      refine (hk a' w' r').mono fun j a2 w2 ⟨A2, z, r2, e2⟩ => ⟨A2, z, r2, ?_⟩
      have e0 : Ext A.H w A.H { w with drawn := w.drawn + 1 } := ⟨Nat.le_refl _, fun _ _ h => ⟨rfl, h⟩, fun _ => Nat.le_refl _, rfl, rfl, rfl, dr_succ _⟩
      exact (e0.trans e).trans e2
    · unfold toCome
      exact Nat.le_trans (List.length_filter_le _ _) (by simp)
    · cases c with
      | none => simpa using hnext
      | some i => simpa using hnext
    · intro j hj; exact hnone j (hlt j (List.mem_append_right _ hj))
    · intro j hj h1' h2'
      have := h4 j (List.mem_range.2 hj)
      simp only [List.contains_iff_mem, List.mem_append] at this
      rcases this with h | h
      · exact absurd h h1'
      · exact absurd (List.mem_append.2 h) h2'
    · intro j hj _; exact hB3 j hj
    · have hle : AS.le ⟨filt (pend ops (Array.replicate ops.size false) new) B.env, B.H⟩ A := by
        refine ⟨fun t u hu => ?_, fun b r hb => by rw [← hB2]; exact hb⟩
        have hu' : look (filt (pend ops (Array.replicate ops.size false) new) B.env) t = some u := hu
        rw [look_filt] at hu'
        split at hu'
        · cases hu'
        · rename_i hnp
          rw [hB4 t (fun x hx e => hnp (mem_pend.2 ⟨x, hx, hnone x (hlt x (List.mem_append_left _ hx)), e⟩))] at hu'
          exact hu'
      exact Rel.le hle hdr
    · rw [hB2]; exact .refl _ _
end
end Go.Abs
