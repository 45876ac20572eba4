import Derived.Test.YtoeplpkmjfecgaaGreatDoorAb21
/- A region that draws its order, and ends in operations that wait for all ahead of them. -/
namespace Go.Abs
set_option linter.unusedSimpArgs false
set_option linter.unusedVariables false
section
variable {P : Program}
/-- What is known to be done once k is ready: what it waits for, and what that waits for. -/
def covL (ops : Array Oper) (k : Nat) : Nat → List Nat → List Nat
  | 0, acc => acc
  | j + 1, acc => covL ops k j (if dir ops k j || acc.any (fun q => dir ops q j) then j :: acc else acc)
def tailB (ops : Array Oper) (m : Nat) : Bool := decide (m ≤ ops.size) && (List.range ops.size).all fun k => decide (k < m) || (List.range k).all fun j => (covL ops k k []).contains j
def Closed (ops : Array Oper) (listed : Array Bool) : Prop := ∀ j q, j < ops.size → listed.getD j true = true → dir ops j q = true → listed.getD q true = true
theorem cov_listed {ops : Array Oper} {listed : Array Bool} (hs : listed.size = ops.size) (hcl : Closed ops listed) {k : Nat} (hk : k < ops.size) (hr : k ∈ Region.ready .any ops listed) :
    ∀ (j : Nat) (acc : List Nat), (∀ q ∈ acc, q < ops.size ∧ listed.getD q true = true) → j ≤ k → ∀ q ∈ covL ops k j acc, q < ops.size ∧ listed.getD q true = true
  | 0, acc, ha, _, q, hq => ha q hq
  | j + 1, acc, ha, hj, q, hq => by
    refine cov_listed hs hcl hk hr j _ (fun x hx => ?_) (by omega) q hq
    split at hx
    · rename_i hc
      rcases List.mem_cons.1 hx with rfl | hx
      · refine ⟨by omega, ?_⟩
        simp only [Bool.or_eq_true, List.any_eq_true] at hc
        rcases hc with hc | ⟨y, hy, hc⟩
        · exact ready_dir hs hr hc (by omega)
        · exact hcl y _ (ha y hy).1 (ha y hy).2 hc
      · exact ha x hx
    · exact ha x hx
theorem tail_all {ops : Array Oper} {m : Nat} (ht : tailB ops m = true) {listed : Array Bool} (hs : listed.size = ops.size) (hcl : Closed ops listed) {k : Nat} (hm : m ≤ k) (hr : k ∈ Region.ready .any ops listed) : ∀ j, j < k → listed.getD j true = true := by
  intro j hj
  obtain ⟨_, o, ho, _⟩ := mem_ready.1 hr
  have hk : k < ops.size := (Array.getElem?_eq_some_iff.1 ho).1
  unfold tailB at ht
  simp only [Bool.and_eq_true, List.all_eq_true, List.mem_range, Bool.or_eq_true, decide_eq_true_eq] at ht
  rcases ht.2 k hk with h | h
  · omega
  · have := h j hj
    exact (cov_listed hs hcl hk hr k [] (fun q hq => by cases hq) (Nat.le_refl _) j (by simpa using this)).2
theorem closed_set {ops : Array Oper} {listed : Array Bool} (hs : listed.size = ops.size) (hdown : downB ops = true) (hcl : Closed ops listed) {i : Nat} (hr : i ∈ Region.ready .any ops listed) : Closed ops (listed.setIfInBounds i true) := by
  intro j q hj hl hd
  have hq := dir_lt hdown hd
  by_cases hqi : i = q
  · subst hqi; exact listed_self
  · rw [listed_set hqi]
    by_cases hji : i = j
    · subst hji; exact ready_dir hs hr hd (by omega)
    · rw [listed_set hji] at hl; exact hcl j q hj hl hd
theorem ready_of {ops : Array Oper} {listed : Array Bool} (hs : listed.size = ops.size) (hdown : downB ops = true) {k : Nat} (hk : k < ops.size) (hl : listed.getD k true = false) (h : ∀ j, j < k → listed.getD j true = true) : k ∈ Region.ready .any ops listed := by
  rw [mem_ready]
  refine ⟨hl, ops[k], by simp [hk], fun e he hb => ?_⟩
  have hdir : dir ops k e.on = true := by
    unfold dir; rw [Array.getElem?_eq_getElem hk]
    simp only [Array.any_eq_true, Bool.and_eq_true, beq_iff_eq]
    obtain ⟨x, hx, hxe⟩ := Array.mem_iff_getElem.1 he
    exact ⟨x, hx, by rw [hxe]; exact hb, by rw [hxe]⟩
  have hlt' := (dir_lt hdown hdir).1
  have := h e.on hlt'
  rw [Array.getD_eq_getD_getElem?] at this ⊢
  rw [Array.getElem?_eq_getElem (by omega)] at this ⊢
  simpa using this
/-- The end: one after the other. -/
theorem tail_run {ops : Array Oper} {m : Nat} (hdown : downB ops = true) (ht : tailB ops m = true) {Q : Exit → Act → World → Prop} : ∀ (s k : Nat) (listed : Array Bool) (a : Act) (w : World) (fuel : Nat), m ≤ k → k + s = ops.size → listed.size = ops.size →
    (∀ j, j < k → listed.getD j true = true) → (∀ j, k ≤ j → j < ops.size → listed.getD j true = false) → s ≤ fuel → wpOps P ops Q (List.range' k s) a w → wpAny P .any ops Q fuel listed a w
  | 0, k, listed, a, w, fuel, hm, hks, hs, h1, h2, hf, h => by
    have hr : Region.ready .any ops listed = [] := List.eq_nil_iff_forall_not_mem.2 fun j hj => by
      obtain ⟨hl, o, ho, _⟩ := mem_ready.1 hj
      have := (Array.getElem?_eq_some_iff.1 ho).1
      rw [h1 j (by omega)] at hl; cases hl
    cases fuel with
    | zero => exact ⟨hr, h⟩
    | succ f => exact ⟨fun _ => h, fun i hi => by rw [hr] at hi; cases hi⟩
  | s + 1, k, listed, a, w, fuel, hm, hks, hs, h1, h2, hf, h => by
    obtain ⟨f, rfl⟩ : ∃ f, fuel = f + 1 := ⟨fuel - 1, by omega⟩
    have hkr := ready_of hs hdown (k := k) (by omega) (h2 k (Nat.le_refl _) (by omega)) h1
    have hcl : Closed ops listed := fun j q hj hl hd => by
      have := dir_lt hdown hd
      by_cases hjk : j < k
      · exact h1 q (by omega)
      · rw [h2 j (by omega) hj] at hl; cases hl
    refine ⟨fun e => (by rw [e] at hkr; cases hkr), fun i hi => ?_⟩
    obtain ⟨hl, o, ho, _⟩ := mem_ready.1 hi
    have hin := (Array.getElem?_eq_some_iff.1 ho).1
    have hik : k ≤ i := by
      by_cases h : i < k
      · rw [h1 i h] at hl; cases hl
      · omega
    have hik2 : i = k := by
      by_cases h : k < i
      · have := tail_all ht hs hcl (by omega) hi k h
        rw [h2 k (Nat.le_refl _) (by omega)] at this; cases this
      · omega
    subst hik2
    rw [List.range'_succ, wpOps_cons] at h
    refine wpOp_mono (fun a' w' h' => ?_) h
    refine tail_run hdown ht s (i + 1) _ a' w' f (by omega) (by omega) (by simp [hs]) (fun j hj => ?_) (fun j hj hjn => ?_) (by omega) h'
    · by_cases e : i = j
      · subst e; exact listed_self
      · rw [listed_set e]; exact h1 j (by omega)
    · rw [listed_set (by omega)]; exact h2 j (by omega) hjn
/-- A normal end goes another way. -/
def onto (N : Act → World → Prop) (Q : Exit → Act → World → Prop) : Exit → Act → World → Prop
  | .normal, a, w => N a w
  | e, a, w => Q e a w
theorem wp_onto {o : Oper} {a : Act} {w : World} {K K' N : Act → World → Prop} {Q : Exit → Act → World → Prop} (h : ∀ a w, K a w → K' a w) (hh : o.wp P a w K (onto N Q)) : o.wp P a w K' Q := by
  unfold Oper.wp at *
  generalize (execOp a.eval o).run P w = r at *
  cases r with
  | ok n w' =>
    cases n <;> simp only [Oper.upon] at hh ⊢ <;>
      first
        | exact h _ _ hh
        | exact Calls.mono hh (fun e w'' he => by cases e <;> first | exact h _ _ he | exact he)
        | exact Rows.mono hh (fun _ _ he => h _ _ he)
  | halt x w' => cases x <;> simp only [Oper.upon] at hh ⊢ <;> exact hh
/-- The operations that come ahead of the end. -/
def headOk (pre ops : Array Oper) : Bool := decide (pre.size ≤ ops.size) && (List.range pre.size).all fun i => match pre[i]? with
  | some o => (match o.guard with | some (j, _) => decide (j < pre.size) | none => true)
  | none => true
theorem onto_out {N : Act → World → Prop} {Q : Exit → Act → World → Prop} (h : LetsOut (onto N Q)) : LetsOut Q := h
theorem wpOp_onto {pre ops : Array Oper} {i : Nat} {a : Act} {w : World} {K K' N : Act → World → Prop} {Q : Exit → Act → World → Prop} (hg : headOk pre ops = true) (hpo : ∀ j, j < pre.size → ops[j]? = pre[j]?) (hi : i < pre.size) (h : ∀ a w, K a w → K' a w)
    (hh : wpOp P pre (onto N Q) i K a w) : wpOp P ops Q i K' a w := by
  unfold wpOp at *
  rw [hpo i hi]
  cases ho : pre[i]? with
  | none => rw [ho] at hh; exact h _ _ hh
  | some o =>
    rw [ho] at hh
    simp only [] at hh ⊢
    have hw : Region.wanted o (yielded ops a.tmps) = Region.wanted o (yielded pre a.tmps) := by
      unfold Region.wanted
      cases hgd : o.guard with
      | none => rfl
      | some p =>
        obtain ⟨j, want⟩ := p
        unfold headOk at hg
        simp only [Bool.and_eq_true, List.all_eq_true, List.mem_range] at hg
        have := hg.2 i hi
        rw [ho] at this
        simp only [hgd, decide_eq_true_eq] at this
        simp only []
        unfold yielded
        rw [hpo j this]
    rw [hw]
    split
    · rename_i q
      rw [if_pos q] at hh
      exact hh.imp (wp_onto h) (fun x => ⟨x.1, onto_out x.2⟩)
    · rename_i q
      rw [if_neg q] at hh
      exact h _ _ hh
theorem dir_head {pre ops : Array Oper} (hpo : ∀ j, j < pre.size → ops[j]? = pre[j]?) {i j : Nat} (hi : i < pre.size) : dir ops i j = dir pre i j := by unfold dir; rw [hpo i hi]
theorem any_tail {pre ops : Array Oper} (hg : headOk pre ops = true) (hpo : ∀ j, j < pre.size → ops[j]? = pre[j]?) (hdown : downB ops = true) (hdp : downB pre = true) (ht : tailB ops pre.size = true) {Q : Exit → Act → World → Prop} :
    ∀ (fuel : Nat) (l0 listed : Array Bool) (a : Act) (w : World) (f : Nat), fuel + (ops.size - pre.size) ≤ f → l0.size = pre.size → listed.size = ops.size → (∀ j, j < pre.size → listed.getD j true = l0.getD j true) → (∀ j, pre.size ≤ j → j < ops.size → listed.getD j true = false) → Closed ops listed →
      wpAny P .any pre (onto (wpOps P ops Q (List.range' pre.size (ops.size - pre.size))) Q) fuel l0 a w → wpAny P .any ops Q f listed a w := by
  have hle : pre.size ≤ ops.size := by unfold headOk at hg; simp only [Bool.and_eq_true, decide_eq_true_eq] at hg; exact hg.1
  have rdy : ∀ (l0 listed : Array Bool), l0.size = pre.size → listed.size = ops.size → (∀ j, j < pre.size → listed.getD j true = l0.getD j true) → ∀ i, i < pre.size → (i ∈ Region.ready .any ops listed ↔ i ∈ Region.ready .any pre l0) := by
    intro l0 listed h0 h1 h2 i hi
    rw [mem_ready, mem_ready, h2 i hi, hpo i hi]
    refine and_congr_right fun hl => exists_congr fun o => and_congr_right fun ho => forall_congr' fun e => forall_congr' fun he => forall_congr' fun hb => ?_
    have hd : dir pre i e.on = true := by
      unfold dir; rw [ho]
      simp only [Array.any_eq_true, Bool.and_eq_true, beq_iff_eq]
      obtain ⟨x, hx, hxe⟩ := Array.mem_iff_getElem.1 he
      exact ⟨x, hx, by rw [hxe]; exact hb, by rw [hxe]⟩
    have hlt := (dir_lt hdp hd).1
    have := h2 e.on (by omega)
    rw [Array.getD_eq_getD_getElem?, Array.getD_eq_getD_getElem?] at this ⊢
    rw [Array.getElem?_eq_getElem (by omega), Array.getElem?_eq_getElem (by omega)] at this ⊢
    simp only [Option.getD_some] at this ⊢
    rw [this]
  have done : ∀ (l0 listed : Array Bool) (a : Act) (w : World) (f : Nat), ops.size - pre.size ≤ f → l0.size = pre.size → listed.size = ops.size → (∀ j, j < pre.size → listed.getD j true = l0.getD j true) → (∀ j, pre.size ≤ j → j < ops.size → listed.getD j true = false) →
      Region.ready .any pre l0 = [] → wpOps P ops Q (List.range' pre.size (ops.size - pre.size)) a w → wpAny P .any ops Q f listed a w := by
    intro l0 listed a w f hf h0 h1 h2 h3 hr h
    exact tail_run hdown ht _ pre.size listed a w f (Nat.le_refl _) (by omega) h1 (fun j hj => by rw [h2 j hj]; exact noReady hdp h0 hr j hj) h3 hf h
  intro fuel
  induction fuel with
  | zero =>
    intro l0 listed a w f hf h0 h1 h2 h3 hcl h
    exact done l0 listed a w f (by omega) h0 h1 h2 h3 h.1 h.2
  | succ fuel ih =>
    intro l0 listed a w f hf h0 h1 h2 h3 hcl h
    by_cases hr : Region.ready .any pre l0 = []
    · exact done l0 listed a w f (by omega) h0 h1 h2 h3 hr (h.1 hr)
    · obtain ⟨f, rfl⟩ : ∃ g, f = g + 1 := ⟨f - 1, by omega⟩
      obtain ⟨x, hx⟩ := List.exists_mem_of_ne_nil _ hr
      obtain ⟨hxl, ox, hox, _⟩ := mem_ready.1 hx
      have hxp : x < pre.size := (Array.getElem?_eq_some_iff.1 hox).1
      refine ⟨fun e => ?_, fun i hi => ?_⟩
      · have := (rdy l0 listed h0 h1 h2 x hxp).2 hx
        rw [e] at this; cases this
      · obtain ⟨hil, o, ho, _⟩ := mem_ready.1 hi
        have hin := (Array.getElem?_eq_some_iff.1 ho).1
        by_cases hip : i < pre.size
        · refine wpOp_onto hg hpo hip (fun a' w' h' => ?_) (h.2 i ((rdy l0 listed h0 h1 h2 i hip).1 hi))
          refine ih (l0.setIfInBounds i true) (listed.setIfInBounds i true) a' w' f (by omega) (by simp [h0]) (by simp [h1]) (fun j hj => ?_) (fun j hj hjn => ?_) (closed_set h1 hdown hcl hi) h'
          · by_cases e : i = j
            · subst e; rw [listed_self, listed_self]
            · rw [listed_set e, listed_set e]; exact h2 j hj
          · rw [listed_set (by omega)]; exact h3 j hj hjn
        · have := tail_all ht h1 hcl (by omega) hi x (by omega)
          rw [h2 x hxp, hxl] at this; cases this
end
end Go.Abs
