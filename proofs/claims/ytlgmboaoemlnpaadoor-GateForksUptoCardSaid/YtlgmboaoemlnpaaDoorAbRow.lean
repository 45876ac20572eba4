import Derived.Test.YtlgmboaoemlnpaaDoorAbG4
import Derived.Test.YtlgmboaoemlnpaaDoorV
/- From a contract to a row: the library's variables are held as they are, the row's slices are read. -/
namespace Go.Abs
set_option linter.unusedSimpArgs false
set_option linter.unusedVariables false
open Go.Proofs Go.RowKit Go.Proofs.YtlgmboaoemlnpaaDoor Go.Proofs.YtlgmboaoemlnpaaDoorW.PrintWords
set_option linter.unusedVariables false
/-- The first n blocks, held as they are. -/
def heldAs (w : World) (n : Nat) : Heap := fun b => if b < n then (w.heap[b]?).map .exact else none
theorem heldAs_rel (w : World) (n : Nat) : HRel (heldAs w n) w := by
  intro b r h
  unfold heldAs at h
  split at h
  · cases e : w.heap[b]? with
    | none => rw [e] at h; cases h
    | some o => rw [e] at h; cases h; exact e
  · cases h
theorem heldAs_keep {w w' : World} {n : Nat} (h : HRel (heldAs w n) w') {b : Nat} (hb : b < n) (hs : b < w.heap.size) : w'.heap[b]? = w.heap[b]? := by
  have e : w.heap[b]? = some w.heap[b] := Array.getElem?_eq_getElem hs
  have := h b (.exact w.heap[b]) (by unfold heldAs; rw [if_pos hb, e]; rfl)
  rw [e]; exact this
theorem heldAs_none {w : World} {n b : Nat} (h : n ≤ b) : heldAs w n b = none := by unfold heldAs; rw [if_neg (by omega)]
theorem cell_lt' {w : World} {a : Addr} {v : Value} (hc : w.cell? a = some v) : a.block < w.heap.size := by
  rcases Nat.lt_or_ge a.block w.heap.size with h | h
  · exact h
  · simp [World.cell?, Array.getElem?_eq_none h] at hc
/-- A call that leaves the held blocks as they are leaves all blocks as they are. -/
theorem below_of {w w' : World} {n : Nat} (he : Ext (heldAs w n) w (heldAs w n) w') (hr : HRel (heldAs w n) w') : Below w.heap.size w w' where
  os := he.os
  tape := he.tape
  output := he.output
  size := he.size
  block := fun k hk => by
    by_cases h : k < n
    · exact heldAs_keep hr h hk
    · exact (he.keep k hk (heldAs_none (by omega))).1
theorem glob_held {w : World} (hG : Glob w) : GH (heldAs w 3) where
  exact := fun b hb => by
    unfold heldAs at hb ⊢
    split at hb
    · rename_i h; rw [if_pos h]
      cases e : w.heap[b]? with
      | none => rw [e] at hb; exact absurd rfl hb
      | some o => exact ⟨o, rfl⟩
    · exact absurd rfl hb
  glob := fun w' hr => by
    have hc : ∀ b off v, b < 3 → w.cell? ⟨b, off, none⟩ = some v → w'.cell? ⟨b, off, none⟩ = some v := fun b off v hb hv => by
      rw [cell_of (heldAs_keep hr hb (cell_lt' hv))]; exact hv
    refine ⟨by obtain ⟨m, hm⟩ := hG.m; exact ⟨m, hc 0 0 _ (by omega) hm⟩, fun c h => hc 1 c _ (by omega) (hG.u.1 c h), fun i h => ⟨hc 2 _ _ (by omega) (hG.u.2 i h).1, hc 2 _ _ (by omega) (hG.u.2 i h).2⟩⟩
theorem repC_of {w : World} {F : Nat → Prop} {b : Nat} : ∀ (vs : List Value) (off : Nat), (∀ i u, vs[i]? = some u → w.cell? ⟨b, off + i, none⟩ = some u) → RepC w F b off (vs.map .s)
  | [], off, _ => by simp only [List.map_nil, RepC]
  | v :: vs, off, h => by
    simp only [List.map_cons, RepC]
    refine ⟨⟨v, h 0 v rfl, rfl⟩, repC_of vs (off + 1) fun i u hu => ?_⟩
    have := h (i + 1) u hu
    rw [show off + 1 + i = off + (i + 1) by omega]; exact this
theorem repE_of {α : Type} {enc : α → List Value} {w : World} {F : Nat → Prop} {b k : Nat} (hF : F b) (hk : ∀ x, (enc x).length = k) : ∀ (xs : List α) (off : Nat), (∀ j p, xs[j]? = some p → ∀ i u, (enc p)[i]? = some u → w.cell? ⟨b, off + (j * k + i), none⟩ = some u) → RepE w F (some ⟨b, off, none⟩) k xs.length (xs.map fun x => (enc x).map .s)
  | [], off, _ => by simp only [List.map_nil, RepE, List.length_nil]
  | x :: xs, off, h => by
    simp only [List.map_cons, RepE]
    refine ⟨b, off, xs.length, rfl, rfl, hF, by rw [List.length_map]; exact hk x, repC_of _ _ fun i u hu => ?_, repE_of hF hk xs (off + k) fun j p hp i u hu => ?_⟩
    · have := h 0 x rfl i u hu
      rw [Nat.zero_mul, Nat.zero_add] at this; exact this
    · have := h (j + 1) p hp i u hu
      rw [Nat.succ_mul] at this
      rw [show off + k + (j * k + i) = off + (j * k + k + i) by omega]; exact this
theorem add_mk (b o j : Nat) : (⟨b, o, none⟩ : Addr).add j = ⟨b, o + j, none⟩ := by unfold Addr.add; split <;> simp_all
/-- A row of structs that is read, as a walk sees it. -/
theorem rep_row {α : Type} {d : Kd α} {enc : α → List Value} {w : World} {F : Nat → Prop} {A : Option Addr} {xs : List α} {cap : Nat} (hk : ∀ x, (enc x).length = d.sz) (hp : 0 < d.sz) (hK : ∀ x cs, d.K w x cs → cs = enc x) (h : Kd.C d w A xs.length xs) (hc : xs.length ≤ cap)
    (hF : ∀ b off x, x ∈ xs → (∀ i u, (enc x)[i]? = some u → w.cell? ⟨b, off + i, none⟩ = some u) → F b) : Rep w F (.vs d.sz (xs.map fun x => (enc x).map .s)) (.slice A xs.length cap) := by
  simp only [Rep]
  refine ⟨A, xs.length, cap, rfl, hc, ?_⟩
  cases xs with
  | nil => simp only [List.map_nil, RepE, List.length_nil]
  | cons y ys =>
    obtain ⟨_, _, h⟩ := h
    obtain ⟨ad, rfl, hall⟩ := h (by simp)
    have hcell : ∀ j p, (y :: ys)[j]? = some p → ∀ i u, (enc p)[i]? = some u → w.cell? (ad.add (j * d.sz + i)) = some u := fun j p hp i u hu => by
      obtain ⟨c, _, hR, hcc⟩ := hall j p hp
      rw [hK p c hR] at hcc
      exact hcc i u hu
    have hsp : ad.spot = none := by
      have h0 : (enc y)[0]? = some ((enc y)[0]'(by rw [hk]; exact hp)) := List.getElem?_eq_getElem _
      have : w.cell? ad = some ((enc y)[0]'(by rw [hk]; exact hp)) := by have := hcell 0 y rfl 0 _ h0; rw [Nat.zero_mul, Nat.zero_add] at this; simpa only [Addr.add, if_true] using this
      unfold World.cell? at this
      split at this
      · cases e : ad.spot with
        | none => rfl
        | some z => rw [e] at this; simp at this
      · cases this
    obtain ⟨b, off, sp⟩ := ad
    simp only [] at hsp
    subst hsp
    exact repE_of (hF b off y (by simp) fun i u hu => by have := hcell 0 y rfl i u hu; rw [Nat.zero_mul, Nat.zero_add, add_mk] at this; exact this) hk (y :: ys) off fun j p hp i u hu => by rw [← add_mk]; exact hcell j p hp i u hu
/-- No cell of a variable of numbers holds a string. -/
theorem no_string {P : Program} {w : World} (h : w.ShapedOpen P) {g : Nat} {t : TypeId} (hg : g < P.globals.size) (h0 : (((begin P (fun _ _ => 0) default).world.heap[g]?).bind Obj.row?).map (·.2) = some t) (hb : P.buildable t = true)
    {k : IntKind} {e : TypeId} {n : Nat} (hc : P.cellTypes P.depth t = some (List.replicate n e)) (hu : P.underlying e = some (.int k)) (off : Nat) (s : ByteArray) : w.cell? ⟨g, off, none⟩ ≠ some (.string s) := by
  cases hz : ((begin P (fun _ _ => 0) default).world.heap[g]?).bind Obj.row? with
  | none => rw [hz] at h0; cases h0
  | some zt =>
    obtain ⟨zero, t'⟩ := zt
    rw [hz] at h0; obtain rfl : t' = t := by simpa using h0
    obtain ⟨cs, hh, _, hr⟩ := h.1 g zero _ hg hz
    obtain ⟨ts, hts, _, hall⟩ := hr hb
    rw [hc] at hts; cases hts
    intro hcell
    simp only [World.cell?, hh] at hcell
    obtain ⟨u, hu', hok⟩ := hall off _ hcell
    have : u = e := List.eq_of_mem_replicate (List.mem_of_getElem? hu')
    subst this
    unfold Cell.ok at hok
    rw [hu] at hok
    simp at hok
theorem AC.calls {P : Program} {g : FuncId} {fn : Func} {args : List TV} {H : Heap} {C : TV → Heap → Prop} (h : AC P g args H C) (hf : P.funcs[g]? = some fn) (hb : fn.body.isNone = false) (hname : (fn.name == "runtime.NumGoroutine") = false)
    {argv : List Value} {w : World} (ha : RepL w (Fr H w) args argv) (hh : HRel H w) : Calls P g argv.toArray w fun e w' => ∃ v, e = .returned v ∧ After C H w v w' := by
  rcases h argv w ha hh with h | ⟨v, w', h, _⟩
  · exact h.2
  · have : (callFunc g argv.toArray).run P w = .ok (.enter g argv.toArray) w := by
      unfold callFunc
      rw [run_ok (w' := w) (a := P) rfl]
      simp only [hf, hname, Bool.false_eq_true, if_false, hb]; rfl
    rw [this] at h; cases h
/-- A law that always tells true, in the kit's own words. -/
theorem AC.law {P : Program} {g : FuncId} {fn : Func} {args : List TV} {w : World} {n : Nat} (h : AC P g args (heldAs w n) (fun r H' => r = .s (.bool true) ∧ H' = heldAs w n)) (hf : P.funcs[g]? = some fn) (hb : fn.body.isNone = false) (hname : (fn.name == "runtime.NumGoroutine") = false)
    {argv : List Value} (ha : RepL w (Fr (heldAs w n) w) args argv) : Calls P g argv.toArray w fun e w' => e = .returned (.bool true) ∧ Below w.heap.size w w' := by
  refine (h.calls hf hb hname ha (heldAs_rel w n)).mono fun e w' ⟨v, he, r, H', ⟨hr, hH⟩, hv, hrel, hext⟩ => ?_
  subst he hr hH
  simp only [Rep] at hv
  subst hv
  exact ⟨rfl, below_of hext hrel⟩
end Go.Abs
