import Derived.Test.YtoeplpkmjfecgaaGreatDoorMg2
import Derived.Test.YtoeplpkmjfecgaaGreatDoorProg
import Derived.Lib.LaidU8
import Derived.Lib.LaidTab
import Derived.ChangeArms
import Derived.Test.YtoeplpkmjfecgaaGreatDoorV
/- The lines of a text: what yield is called with. -/
namespace Go.Abs
set_option linter.unusedSimpArgs false
set_option linter.unusedVariables false
set_option maxHeartbeats 4000000
open Go.Proofs Go.Wd Go.RowKit
set_option linter.unusedVariables false
set_option linter.unusedSectionVars false
set_option maxRecDepth 8000
variable {H : Heap}
/-- A line without blanks about it, if it tells something. -/
def trimP (s : ByteArray) : ByteArray := ⟨(Lib.trimB s.data.toList 32).toArray⟩
def tells (s : ByteArray) : Bool := decide (s ≠ ⟨#[]⟩) && !Lib.hasPrefix s.data.toList (⟨#[59]⟩ : ByteArray).data.toList
theorem yStep_do {P : Program} {A : AS} {o : Oper} {c : Call} {f : Operand} {K : AS → Prop} {l : Nat} {vs : List TV} {d : Option Tmp} (hd : o.dst = d) (hf : (evalA A.env f).bind yieldOf = some l) (hv : evalL A.env c.args.toList = some vs) {C : TV → Heap → Prop} (h : YC P l vs A.H C) (hk : ∀ r H', C r H' → K ((A.on H').put d r)) : yStep P o c f A K :=
  yStep_go hf hv h (by rw [hd]; exact hk)
theorem lines_c {G : Heap} (g : GA G) (hs : Sub G H) {L bt : Nat} {text : ByteArray} (hz : text.size < 4294967281) (hb : H bt = some (.cells [.s (.string text)]))
    (J : Nat → Heap → Prop) (X : Heap → Prop) (h0 : J 0 H)
    (hsk : ∀ i s K, (pieces text 10)[i]? = some s → tells (trimP s) = false → J i K → J (i + 1) K)
    (hy : ∀ i s K, (pieces text 10)[i]? = some s → tells (trimP s) = true → J i K → YC Tryz.prog L [.s (.int .i64 (i : Nat)), .s (.string (trimP s))] K (fun r K' => (r = .s (.bool true) ∧ J (i + 1) K') ∨ (r = .s (.bool false) ∧ X K'))) :
    AC Tryz.prog 54 [.s (.func (.yield L) #[] #[]), .s (.pointer (some ⟨bt, 0, none⟩))] H (fun r K => r = .tup [] ∧ (J (pieces text 10).length K ∨ X K)) := by
  have SP := fun (K : Heap) (hK : Sub H K) => split_c g (hs.trans hK) (s := text) (c := 10) hz (pieces_len text 10)
  have hlen : (pieces text 10).length ≤ 4294967281 := by
    have := pieces_len text 10
    have h2 := Lib.countB_le (⟨#[10]⟩ : ByteArray) (Nat.le_refl 1) _ text (Nat.le_refl _)
    omega
  have hps := fun p hp => pieces_size (s := text) (c := 10) p hp
  generalize pieces text 10 = ps at *
  replace SP := later SP
  clear g hs
  refine AC.body Tryz.func54 rfl rfl (n := 30) (res := []) rfl rfl (by simp) ?_
  simp only [ent]
  replace h0 := later h0
  replace hsk := later hsk
  replace hy := later hy
  replace hps := later hps
  (repeat' (first | refine wk ?_ | refine wk2 ?_ ?_ | with_reducible refine wkF fun _ _ _ => ?_ | with_reducible intro _ | refine Calling.eq (SP.go _ (by exact sb)) ?_ | exact ag | fail))
  clear SP
  refine ARun.rounds (fun st : Nat × Heap => ⟨[(0, .s (.func (.yield L) #[] #[])), (6, .vs 1 (ps.map s1)), (7, .s (.int .i64 ps.length)), (8, .s (.int .i64 (st.1 : Nat)))], st.2⟩)
    (fun st => ps.length - st.1) (fun st => st.1 ≤ ps.length ∧ J st.1 st.2) ?_ (0, H) ⟨by simp, h0.go⟩ ?_
  · rintro ⟨i, K⟩ ⟨hi, hJ⟩ next
    simp only [] at hi hJ ⊢
    replace hJ := later hJ
    have e0 : (0 : Int) ≤ i := by omega
    by_cases hlt : i < ps.length
    · have e1 : (i : Int) < ps.length := by omega
      have hw1 := w64s (i := i) (by omega)
      obtain ⟨s, hx⟩ := at_ hlt
      have hx2 := vget s1 hx
      rw [s1_def s] at hx2
      have hsz : s.size ≤ 9223372036854775807 := by have := hps.go s (List.mem_of_getElem? hx); omega
      have TR := fun (K : Heap) => trim_c (H := K) (s := s) hsz
      have HP := fun (K : Heap) => hasPre_c (H := K) (trimP s) ⟨#[59]⟩
      have e1' : (⟨(Lib.trimB s.data.toList 32).toArray⟩ : ByteArray) = trimP s := rfl
      rw [e1'] at TR
      have hsk' := hsk.go i s K hx
      have hy' := hy.go i s K hx
      have hne : (!((trimP s).toList == (⟨#[]⟩ : ByteArray).toList)) = decide (trimP s ≠ ⟨#[]⟩) := by rw [str_dec]; simp
      unfold tells at hsk' hy'
      by_cases ht : trimP s = ⟨#[]⟩
      · have hne2 : (!((trimP s).toList == (⟨#[]⟩ : ByteArray).toList)) = false := by rw [hne]; simpa using ht
        have nx := next.go (i + 1, K) ⟨by simp only []; omega, hsk' (by simp [ht]) hJ.go⟩ (by simp only []; omega)
        replace nx := later nx
        clear hsk' hy' hsk hy hx hsz e1' HP hne ht next
        generalize trimP s = t at *
        (repeat' (first | refine wk ?_ | refine wk2 ?_ ?_ | with_reducible refine wkF fun _ _ _ => ?_ | with_reducible intro _ | refine Calling.eq (TR _) ?_ | exact ag | fail))
        exact ARun.weaken nx.go (leK (Sub.refl _))
      · have hne2 : (!((trimP s).toList == (⟨#[]⟩ : ByteArray).toList)) = true := by rw [hne]; simpa using ht
        rcases Bool.eq_false_or_eq_true (Lib.hasPrefix (trimP s).data.toList (⟨#[59]⟩ : ByteArray).data.toList) with hh | hh
        · have nx := next.go (i + 1, K) ⟨by simp only []; omega, hsk' (by rw [hh]; simp) hJ.go⟩ (by simp only []; omega)
          rw [hh] at HP
          replace nx := later nx
          clear hsk' hy' hsk hy hx hsz e1' hne ht next hh
          generalize trimP s = t at *
          (repeat' (first | refine wk ?_ | refine wk2 ?_ ?_ | with_reducible refine wkF fun _ _ _ => ?_ | with_reducible intro _ | refine Calling.eq (TR _) ?_ | refine Calling.eq (HP _) ?_ | exact ag | fail))
          exact ARun.weaken nx.go (leK (Sub.refl _))
        · have Y := hy' (by rw [hh]; simpa using ht) hJ.go
          rw [hh] at HP
          replace Y := later Y
          clear hsk' hy' hsk hy hx hsz e1' hne ht hh
          generalize trimP s = t at *
          (repeat' (first | refine wk ?_ | refine wk2 ?_ ?_ | with_reducible refine wkF fun _ _ _ => ?_ | with_reducible intro _ | exact ag | fail))
          refine Calling.eq (TR _) ?_
          refine ARun.seq ?_
          refine ARun.regionY 11 _ _ _ rfl rfl rfl (by rfl) ?_
          (repeat' (first | refine wk ?_ | refine wk2 ?_ ?_ | with_reducible refine wkF fun _ _ _ => ?_ | with_reducible intro _ | refine Calling.eq (HP _) ?_ | exact ag | fail))

          refine yG_go rfl rfl (by rfl) ?_
          refine yStep_do (d := some 26) rfl rfl rfl Y.go ?_
          rintro _ K' (⟨rfl, hJ'⟩ | ⟨rfl, hX⟩)
          · replace hJ' := later hJ'
            (repeat' (first | refine wk ?_ | refine wk2 ?_ ?_ | with_reducible refine wkF fun _ _ _ => ?_ | with_reducible intro _ | exact ag | fail))
            exact ARun.weaken (next.go (i + 1, K') ⟨by simp only []; omega, hJ'.go⟩ (by simp only []; omega)) (leK (Sub.refl _))
          · replace hX := later hX
            (repeat' (first | refine wk ?_ | refine wk2 ?_ ?_ | with_reducible refine wkF fun _ _ _ => ?_ | with_reducible intro _ | exact ag | fail))
            exact Fin.plain agr (Sub.refl _) ⟨rfl, .inr hX.go⟩
    · obtain rfl : i = ps.length := by omega
      have e1 : decide ((ps.length : Int) < ps.length) = false := by simp
      (repeat' (first | refine wk ?_ | refine wk2 ?_ ?_ | with_reducible refine wkF fun _ _ _ => ?_ | with_reducible intro _ | exact ag | fail))
      refine ARun.done ?_
      exact Fin.plain agr (Sub.refl _) ⟨rfl, .inl hJ.go⟩
  · exact leK (Sub.refl _)
end Go.Abs
/- Assemble. -/
namespace Go.Abs
set_option linter.unusedSimpArgs false
set_option linter.unusedVariables false
set_option maxHeartbeats 4000000
open Go.Proofs Go.Wd Go.RowKit
set_option linter.unusedVariables false
set_option linter.unusedSectionVars false
set_option maxRecDepth 8000
variable {H : Heap}
theorem lns_c (text : ByteArray) (H : Heap) : AC Tryz.prog 36 [.s (.string text)] H (fun r H' => ∃ b, H b = none ∧ r = .clo (.func 54) [] [.s (.pointer (some ⟨b, 0, none⟩))] ∧ H' = upd H b (.cells [.s (.string text)])) := by
  refine AC.body Tryz.func36 rfl rfl (n := 4) (res := [.tmp 2]) rfl rfl (by simp) ?_
  simp only [ent]
  (repeat' (first | refine wk ?_ | refine wk2 ?_ ?_ | with_reducible refine wkF fun _ _ _ => ?_ | with_reducible intro _ | exact ag | fail))
  rename_i b hb _
  exact fin1 ⟨b, hb, rfl, rfl⟩
/-- What the lines tell. -/
def asmR : List ByteArray → Nat → List Nat → Option (List Nat) × Nat × Int
  | [], i, ws => (some ws, 0, 0)
  | s :: ps, i, ws => if tells (trimP s) = false then asmR ps (i + 1) ws else
    if (oneP (trimP s)).2 ≠ 0 then (none, i, 60) else if ws.length = 512 then (none, i, 5) else asmR ps (i + 1) (ws ++ [(oneP (trimP s)).1])
def asmK (G0 : Heap) (L b5 : Nat) (lp : Root) (b : Nat) (ws : List Nat) : Heap := ownH (upd (upd G0 b5 (.cells [ownT b 1 (ws.map u1)])) L lp) b (ws.map u1)
def asmJ (G0 : Heap) (L b5 : Nat) (lp : Root) (ls : List ByteArray) (i : Nat) (K : Heap) : Prop :=
  ∃ b ws, i ≤ ls.length ∧ asmR (ls.drop i) i ws = asmR ls 0 [] ∧ ws.length ≤ 512 ∧ (ws.map u1 ≠ [] → upd G0 L lp b = none) ∧ K = asmK G0 L b5 lp b ws
def asmX (H : Heap) (L b2 b3 b4 : Nat) (ld : Root) (ls : List ByteArray) (K : Heap) : Prop :=
  ∃ (i : Nat) (e : Int), asmR ls 0 [] = (none, i, e) ∧ K = upd (upd (upd (upd H b2 (.cells [.nils])) b3 (.cells [.s (.int .i64 i)])) b4 (.cells [.s (.int .i64 e)])) L ld
theorem each_u1j (l : List Nat) : Each 1 (l.map u1) := fun e he => by obtain ⟨x, _, rfl⟩ := List.mem_map.1 he; rfl
theorem own_at {K : Heap} {b x : Nat} {M : List (List TV)} {r : Root} (hb : M ≠ [] → K b = none) (h : K x = some r) : ownH K b M x = some r := by
  by_cases q : M = []
  · rw [q]; exact h
  · rw [ownH_ne' q, upd_eq, if_neg (none_at (hb q) h)]; exact h
section
variable {G0 : Heap} {L b5 b : Nat} {lp : Root} {ws : List Nat}
theorem asmK_free (hb : ws.map u1 ≠ [] → upd G0 L lp b = none) (h5 : (G0 b5).isSome = true) (c : List TV) : ws.map u1 ≠ [] → upd (upd G0 b5 (.cells c)) L lp b = none := fun q => by
  have h := hb q
  rw [upd_eq] at h ⊢
  split at h
  · cases h
  · rename_i n
    rw [if_neg n, upd_eq, if_neg (by rintro rfl; rw [h] at h5; cases h5)]; exact h
theorem asmK_L (hb : ws.map u1 ≠ [] → upd G0 L lp b = none) (h5 : (G0 b5).isSome = true) : asmK G0 L b5 lp b ws L = some lp := own_at (asmK_free hb h5 _) (upd_self _ _ _)
theorem asmK_5 (hb : ws.map u1 ≠ [] → upd G0 L lp b = none) (h5 : (G0 b5).isSome = true) (hL : G0 L = none) : asmK G0 L b5 lp b ws b5 = some (.cells [ownT b 1 (ws.map u1)]) :=
  own_at (asmK_free hb h5 _) (by rw [upd_eq, if_neg (by rintro rfl; rw [hL] at h5; cases h5), upd_self])
theorem asmK_at (hb : ws.map u1 ≠ [] → upd G0 L lp b = none) (h5 : (G0 b5).isSome = true) (hL : G0 L = none) {x : Nat} {r : Root} (hx : G0 x = some r) (hn : x ≠ b5) : asmK G0 L b5 lp b ws x = some r :=
  own_at (asmK_free hb h5 _) (by rw [upd_eq, if_neg (by rintro rfl; rw [hL] at hx; cases hx), upd_eq, if_neg hn]; exact hx)
theorem asmK_lp (hb : ws.map u1 ≠ [] → upd G0 L lp b = none) (lq : Root) : upd (asmK G0 L b5 lp b ws) L lq = asmK G0 L b5 lq b ws := by
  unfold asmK
  by_cases q : ws.map u1 = []
  · rw [q, ownH_nil, ownH_nil]; funext x; simp only [upd_eq]; split <;> simp_all
  · have hbL : b ≠ L := by rintro rfl; have := hb q; rw [upd_self] at this; cases this
    rw [ownH_ne' q, ownH_ne' q]; funext x; simp only [upd_eq]
    by_cases e1 : x = L
    · subst e1; simp [Ne.symm hbL]
    · simp [e1]
theorem asm_app {t tx : TypeId} {bytes : Nat} {s x : Operand} {d : Option Tmp} {ty : TypeId} {pos : String} {aft : Array Edge} {g : Option (Nat × Bool)} {b1 : Nat} {w : Nat} (ha : apP Tryz.prog t = some (1, bytes)) {e' : TypeId} (hk : Tryz.prog.underlying tx = some (.slice e')) (hby : bytes ≤ 64)
    (hb : ws.map u1 ≠ [] → upd G0 L lp b = none) (h5 : (G0 b5).isSome = true) (hL : G0 L = none) (hlen : ws.length ≤ 512) (h1 : asmK G0 L b5 lp b ws b1 = none) :
    OC Tryz.prog ⟨d, .call { callee := .builtin .append, args := #[s, x], argTypes := #[t, tx] }, ty, pos, aft, g⟩ [ownT b 1 (ws.map u1), .rs b1 0 1 1] (upd (asmK G0 L b5 lp b ws) b1 (.cells (u1 w)))
      (fun r H' => ∃ b', upd G0 L lp b' = none ∧ b' ≠ b5 ∧ r = ownT b' 1 ((ws ++ [w]).map u1) ∧ H' = ownH (upd (upd G0 b5 (.cells [ownT b 1 (ws.map u1)])) L lp) b' ((ws ++ [w]).map u1)) := by
  have hm : ((ws.map u1).length + 1 + ((ws.map u1).length + 1) / 4 + 192) * bytes ≤ 281474976710656 := by
    simp only [List.length_map]
    exact Nat.le_trans (Nat.mul_le_mul (show _ ≤ 1024 by omega) hby) (by decide)
  refine OC.mono (oc_append1 (e := u1 w) ha hk (each_u1j ws) rfl rfl (asmK_free hb h5 _) h1 hm (by simp only [List.length_map]; omega)) fun r H' h => ?_
  obtain ⟨b', hb', h2, h3⟩ := h
  refine ⟨b', ?_, ?_, by rw [h2]; simp, by rw [h3]; simp⟩
  · rw [upd_eq] at hb' ⊢
    split at hb'
    · cases hb'
    · rename_i n
      rw [if_neg n]
      rw [upd_eq] at hb'
      split at hb'
      · cases hb'
      · exact hb'
  · rintro rfl
    rw [upd_eq, upd_self] at hb'
    split at hb' <;> cases hb'
end
theorem asm_ac {G : Heap} (g : GA G) {text : ByteArray} (hz : text.size < 4294967281) {G0 : Heap} (hG : Sub G G0) {L b2 b3 b4 b5 bt N : Nat} {pr : Array Tmp} {asg body : Code} {E : List (Nat × TV)} (hL : G0 L = none) (h5 : G0 b5 = some (.cells [.nils])) (ht : G0 bt = some (.cells [.s (.string text)]))
    (hr : ∀ i s b ws, (pieces text 10)[i]? = some s → tells (trimP s) = true → ws.length ≤ 512 → (ws.map u1 ≠ [] → upd G0 L (.loop .ready none pr asg body N E) b = none) → asmR ((pieces text 10).drop i) i ws = asmR (pieces text 10) 0 [] →
      YC Tryz.prog L [.s (.int .i64 (i : Nat)), .s (.string (trimP s))] (asmK G0 L b5 (.loop .ready none pr asg body N E) b ws) (fun r K' => (r = .s (.bool true) ∧ asmJ G0 L b5 (.loop .ready none pr asg body N E) (pieces text 10) (i + 1) K') ∨ (r = .s (.bool false) ∧ asmX H L b2 b3 b4 (.loop .done (some .ret) pr asg body N E) (pieces text 10) K'))) :
    ∃ C, AC Tryz.prog 54 ([] ++ [.s (.func (.yield L) #[] #[])] ++ [.s (.pointer (some ⟨bt, 0, none⟩))]) (upd G0 L (.loop .ready none pr asg body N E)) C ∧
      ∀ r H', C r H' → asmJ G0 L b5 (.loop .ready none pr asg body N E) (pieces text 10) (pieces text 10).length H' ∨ asmX H L b2 b3 b4 (.loop .done (some .ret) pr asg body N E) (pieces text 10) H' := by
  have hlb : L ≠ bt := fun q => by rw [q, ht] at hL; cases hL
  refine ⟨_, lines_c g (hG.trans (Sub.upd (Sub.refl _) hL)) (L := L) (bt := bt) hz (by rw [upd_eq, if_neg (Ne.symm hlb)]; exact ht) (asmJ G0 L b5 (.loop .ready none pr asg body N E) (pieces text 10)) (asmX H L b2 b3 b4 (.loop .done (some .ret) pr asg body N E) (pieces text 10)) ?_ ?_ ?_, fun r H' h => h.2⟩
  · refine ⟨0, [], Nat.zero_le _, rfl, by decide, fun q => absurd rfl q, ?_⟩
    unfold asmK
    rw [List.map_nil, ownH_nil]
    funext x
    simp only [upd_eq, ownT, if_true]
    split
    · rfl
    · split
      · rename_i q; subst q; exact h5
      · rfl
  · rintro i s K hx ht ⟨b, ws, h1, h2, h3, h4, h6⟩
    have hi := (List.getElem?_eq_some_iff.1 hx).1
    refine ⟨b, ws, hi, ?_, h3, h4, h6⟩
    rw [← h2, List.drop_eq_getElem_cons hi, (List.getElem?_eq_some_iff.1 hx).2, asmR, if_pos ht]
  · rintro i s K hx ht ⟨b, ws, h1, h2, h3, h4, rfl⟩
    exact hr i s b ws hx ht h3 h4 h2
end Go.Abs
/- Assemble, walked. -/
namespace Go.Abs
set_option linter.unusedSimpArgs false
set_option linter.unusedVariables false
set_option maxHeartbeats 4000000
open Go.Proofs Go.Wd Go.RowKit
set_option linter.unusedVariables false
set_option linter.unusedSectionVars false
set_option maxRecDepth 8000
set_option maxHeartbeats 1600000
variable {H : Heap}
theorem trimP_size (s : ByteArray) : (trimP s).size ≤ s.size := by
  unfold trimP Lib.trimB Lib.trimLeftB Lib.trimRightB
  rw [Lib.size_mk]
  have h1 := (List.dropWhile_suffix (l := (s.data.toList.reverse.dropWhile (· == (32 : UInt8))).reverse) (p := (· == (32 : UInt8)))).length_le
  have h2 := (List.dropWhile_suffix (l := s.data.toList.reverse) (p := (· == (32 : UInt8)))).length_le
  simp only [List.length_reverse] at h1 h2
  have h3 : s.data.toList.length = s.size := rfl
  omega
theorem sub_fail {K : Heap} {b2 b3 b4 L : Nat} {r2 r3 r4 q p : Root} (h : Sub H K) : Sub (upd (upd (upd (upd H b2 r2) b3 r3) b4 r4) L q) (upd (upd (upd (upd (upd K L p) b2 r2) b3 r3) b4 r4) L q) := by
  intro x r hx
  simp only [upd_eq] at hx ⊢
  by_cases e1 : x = L
  · simpa only [e1, if_true] using hx
  · simp only [e1, if_false] at hx ⊢
    split at hx
    · rename_i e; rw [if_pos e]; exact hx
    · rename_i e; rw [if_neg e]
      split at hx
      · rename_i e; rw [if_pos e]; exact hx
      · rename_i e; rw [if_neg e]
        split at hx
        · rename_i e; rw [if_pos e]; exact hx
        · rename_i e; rw [if_neg e]; exact h x r hx
theorem at_fail {K : Heap} {b2 b3 b4 L : Nat} {r2 r3 r4 p : Root} (h2 : L ≠ b2) (h3 : L ≠ b3) (h4 : L ≠ b4) : upd (upd (upd (upd K L p) b2 r2) b3 r3) b4 r4 L = some p := by
  rw [upd_eq, if_neg h4, upd_eq, if_neg h3, upd_eq, if_neg h2, upd_self]
theorem sub_next {G0 : Heap} {L b5 b' : Nat} {lp lq : Root} {c c' : List TV} {M : List (List TV)} (h1 : upd G0 L lp b' = none) (h2 : b' ≠ b5) : Sub (ownH (upd (upd G0 b5 (.cells c')) L lq) b' M) (upd (upd (ownH (upd (upd G0 b5 (.cells c)) L lp) b' M) b5 (.cells c')) L lq) := by
  intro x r hx
  have h3 : b' ≠ L := by rintro rfl; rw [upd_self] at h1; cases h1
  by_cases q : M = []
  · rw [q, ownH_nil] at hx ⊢
    simp only [upd_eq] at hx ⊢
    split at hx
    · rename_i e; rw [if_pos e]; exact hx
    · rename_i e; rw [if_neg e, if_neg e]
      split at hx
      · rename_i e; rw [if_pos e]; exact hx
      · rename_i e; rw [if_neg e, if_neg e]; exact hx
  · rw [ownH_ne' q] at hx ⊢
    simp only [upd_eq] at hx ⊢
    by_cases e : x = b'
    · subst e; rw [if_pos rfl] at hx; rw [if_neg h3, if_neg h2, if_pos rfl]; exact hx
    · rw [if_neg e] at hx
      split at hx
      · rename_i e; rw [if_pos e]; exact hx
      · rename_i e1; rw [if_neg e1]
        split at hx
        · rename_i e; rw [if_pos e]; exact hx
        · rename_i e2; rw [if_neg e2, if_neg e, if_neg e1, if_neg e2]; exact hx
theorem asm_app' {G0 : Heap} {L b5 b : Nat} {lp : Root} {ws : List Nat} {K : Heap} {t tx : TypeId} {bytes : Nat} {s x : Operand} {d : Option Tmp} {ty : TypeId} {pos : String} {aft : Array Edge} {g : Option (Nat × Bool)} {b1 : Nat} {w : Nat} (hK : K = asmK G0 L b5 lp b ws) (ha : apP Tryz.prog t = some (1, bytes)) {e' : TypeId} (hk : Tryz.prog.underlying tx = some (.slice e')) (hby : bytes ≤ 64)
    (hb : ws.map u1 ≠ [] → upd G0 L lp b = none) (h5 : (G0 b5).isSome = true) (hL : G0 L = none) (hlen : ws.length ≤ 512) (h1 : K b1 = none) :
    OC Tryz.prog ⟨d, .call { callee := .builtin .append, args := #[s, x], argTypes := #[t, tx] }, ty, pos, aft, g⟩ [ownT b 1 (ws.map u1), .rs b1 0 1 1] (upd K b1 (.cells (u1 w)))
      (fun r H' => ∃ b', upd G0 L lp b' = none ∧ b' ≠ b5 ∧ r = ownT b' 1 ((ws ++ [w]).map u1) ∧ H' = ownH (upd (upd G0 b5 (.cells [ownT b 1 (ws.map u1)])) L lp) b' ((ws ++ [w]).map u1) ∧ H' b5 = some (.cells [ownT b 1 (ws.map u1)]) ∧ H' L = some lp) := by
  subst hK
  refine OC.mono (asm_app ha hk hby hb h5 hL hlen h1) fun r H' h => ?_
  obtain ⟨b', h1, h2, h3, rfl⟩ := h
  have hf : (ws ++ [w]).map u1 ≠ [] → upd (upd G0 b5 (.cells [ownT b 1 (ws.map u1)])) L lp b' = none := fun _ => by
    rw [upd_eq] at h1 ⊢
    split at h1
    · cases h1
    · rename_i n; rw [if_neg n, upd_eq, if_neg h2]; exact h1
  have n5 : b5 ≠ L := by rintro rfl; rw [hL] at h5; cases h5
  exact ⟨b', h1, h2, h3, rfl, own_at hf (by rw [upd_eq, if_neg n5, upd_self]), own_at hf (upd_self _ _ _)⟩
theorem asmK_sub {G0 : Heap} {L b5 b : Nat} {lp : Root} {ws : List Nat} (hb : ws.map u1 ≠ [] → upd G0 L lp b = none) (h5 : (G0 b5).isSome = true) (hL : G0 L = none) (hs : Sub H G0) (g5 : H b5 = none) : Sub H (asmK G0 L b5 lp b ws) :=
  fun x r hx => asmK_at hb h5 hL (hs x r hx) (by rintro rfl; rw [g5] at hx; cases hx)
theorem asmK_own {G0 : Heap} {L b5 b : Nat} {lp : Root} {ws : List Nat} (hb : ws.map u1 ≠ [] → upd G0 L lp b = none) : ws.map u1 = [] ∨ asmK G0 L b5 lp b ws b = some (.cells (ws.map u1).flatten) := by
  by_cases q : ws.map u1 = []
  · exact .inl q
  · exact .inr (ownH_at q)
theorem asm_c {G : Heap} (g : GA G) (hN : NamesAt G) (hs : Sub G H) {text : ByteArray} (hz : text.size < 4294967281) : AC Tryz.prog 17 [.s (.string text)] H (fun r K => r = .tup [.vs 1 (((asmR (pieces text 10) 0 []).1.getD []).map u1), .s (.int .i64 ((asmR (pieces text 10) 0 []).2.1 : Nat)), .s (.int .i64 (asmR (pieces text 10) 0 []).2.2)] ∧ K = H) := by
  have LS := fun K => lns_c text K
  refine AC.body Tryz.func17 rfl rfl (n := 33) (res := [.cell 2 38, .cell 3 3, .cell 4 25]) rfl rfl (by simp) ?_
  simp only [ent]
  (repeat' (first | refine wk ?_ | refine wk2 ?_ ?_ | with_reducible refine wkF fun _ _ _ => ?_ | with_reducible intro _ | refine Calling.fresh (LS _) fun _ _ _ => ?_ | exact ag | fail))
  rename_i b2 h2 k2 b3 h3 k3 b4 h4 k4 b5 h5 k5 bt ht kt
  have F2 : upd (upd (upd (upd (upd H b2 (.cells [.nils])) b3 (.cells [.s (.int .i64 0)])) b4 (.cells [.s (.int .i64 0)])) b5 (.cells [.nils])) bt (.cells [.s (.string text)]) b2 = some (.cells [.nils]) := ag
  have F3 : upd (upd (upd (upd (upd H b2 (.cells [.nils])) b3 (.cells [.s (.int .i64 0)])) b4 (.cells [.s (.int .i64 0)])) b5 (.cells [.nils])) bt (.cells [.s (.string text)]) b3 = some (.cells [.s (.int .i64 0)]) := ag
  have F4 : upd (upd (upd (upd (upd H b2 (.cells [.nils])) b3 (.cells [.s (.int .i64 0)])) b4 (.cells [.s (.int .i64 0)])) b5 (.cells [.nils])) bt (.cells [.s (.string text)]) b4 = some (.cells [.s (.int .i64 0)]) := ag
  have F5 : upd (upd (upd (upd (upd H b2 (.cells [.nils])) b3 (.cells [.s (.int .i64 0)])) b4 (.cells [.s (.int .i64 0)])) b5 (.cells [.nils])) bt (.cells [.s (.string text)]) b5 = some (.cells [.nils]) := ag
  have Ft : upd (upd (upd (upd (upd H b2 (.cells [.nils])) b3 (.cells [.s (.int .i64 0)])) b4 (.cells [.s (.int .i64 0)])) b5 (.cells [.nils])) bt (.cells [.s (.string text)]) bt = some (.cells [.s (.string text)]) := ag
  have hsub : Sub H (upd (upd (upd (upd (upd H b2 (.cells [.nils])) b3 (.cells [.s (.int .i64 0)])) b4 (.cells [.s (.int .i64 0)])) b5 (.cells [.nils])) bt (.cells [.s (.string text)])) := sb
  have e23 : b2 ≠ b3 := none_at h3 (upd_self _ _ _)
  have e24 : b2 ≠ b4 := none_at h4 (by rw [upd_eq, if_neg e23, upd_self])
  have e25 : b2 ≠ b5 := none_at h5 (by rw [upd_eq, if_neg e24, upd_eq, if_neg e23, upd_self])
  have e34 : b3 ≠ b4 := none_at h4 (upd_self _ _ _)
  have e35 : b3 ≠ b5 := none_at h5 (by rw [upd_eq, if_neg e34, upd_self])
  have e45 : b4 ≠ b5 := none_at h5 (upd_self _ _ _)
  have e32 := e23.symm
  have e42 := e24.symm
  have e52 := e25.symm
  have e43 := e34.symm
  have e53 := e35.symm
  have e54 := e45.symm
  have g2 : H b2 = none := h2
  have g3 : H b3 = none := Sub.gone (Sub.upd (Sub.refl _) h2) h3
  have g4 : H b4 = none := Sub.gone (Sub.upd (Sub.upd (Sub.refl _) h2) g3) h4
  have g5 : H b5 = none := Sub.gone (Sub.upd (Sub.upd (Sub.upd (Sub.refl _) h2) g3) g4) h5
  clear k2 k3 k4 k5 kt h2 h3 h4 h5 ht LS
  generalize upd (upd (upd (upd (upd H b2 (.cells [.nils])) b3 (.cells [.s (.int .i64 0)])) b4 (.cells [.s (.int .i64 0)])) b5 (.cells [.nils])) bt (.cells [.s (.string text)]) = G0 at *
  refine ARun.rangeF rfl (fv := .clo (.func 54) [] [.s (.pointer (some ⟨bt, 0, none⟩))]) rfl rfl rfl rfl rfl ?_
  intro L hL
  refine Exists.imp (fun C h => ⟨h.1, fun r H' q => ?_⟩) (asm_ac (H := H) (b2 := b2) (b3 := b3) (b4 := b4) (b5 := b5) g hz (hs.trans hsub) hL F5 Ft ?_)
  · replace hL : G0 L = none := hL
    have h5s : (G0 b5).isSome = true := by rw [F5]; rfl
    rcases h.2 r H' q with ⟨b, ws, h1, h2, h3, h4, rfl⟩ | ⟨i, e, h1, rfl⟩
    · have kL := asmK_L h4 h5s
      have k5 := asmK_5 h4 h5s hL
      have k2 := asmK_at h4 h5s hL F2 e25
      have k3 := asmK_at h4 h5s hL F3 e35
      have k4 := asmK_at h4 h5s hL F4 e45
      have kH := asmK_sub h4 h5s hL hsub g5
      have n2 : b2 ≠ L := by rintro rfl; rw [hL] at F2; cases F2
      have n3 : b3 ≠ L := by rintro rfl; rw [hL] at F3; cases F3
      have n4 : b4 ≠ L := by rintro rfl; rw [hL] at F4; cases F4
      have n5 : b5 ≠ L := by rintro rfl; rw [hL] at F5; cases F5
      have gL : H L = none := hsub.gone hL
      have hown := asmK_own (b5 := b5) h4
      refine ⟨_, none, _, _, _, _, _, kL, by decide, fun D => ?_⟩
      have hbn : ws.map u1 ≠ [] → G0 b = none ∧ b ≠ L := fun q => by
        have h := h4 q
        rw [upd_eq] at h
        split at h
        · cases h
        · rename_i n; exact ⟨h, n⟩
      rw [List.drop_length, asmR] at h2
      generalize asmK G0 L b5 _ b ws = K at *
      show ARun _ ⟨33, _, none, _⟩ _ _ _
      have d2 : delH K L b2 = _ := (if_neg n2).trans k2
      have d3 : delH K L b3 = _ := (if_neg n3).trans k3
      have d4 : delH K L b4 = _ := (if_neg n4).trans k4
      have d5 : delH K L b5 = _ := (if_neg n5).trans k5
      have dH : Sub H (delH K L) := fun x r hx => (if_neg (by rintro rfl; rw [gL] at hx; cases hx)).trans (kH x r hx)
      have dO : ws.map u1 = [] ∨ (delH K L b = some (.cells (ws.map u1).flatten) ∧ b ≠ b2 ∧ b ≠ b3 ∧ b ≠ b4 ∧ H b = none) := by
        rcases hown with q | q
        · exact .inl q
        · by_cases q2 : ws.map u1 = []
          · exact .inl q2
          · obtain ⟨z1, z2⟩ := hbn q2
            refine .inr ⟨(if_neg z2).trans q, ?_, ?_, ?_, hsub.gone z1⟩
            · rintro rfl; rw [F2] at z1; cases z1
            · rintro rfl; rw [F3] at z1; cases z1
            · rintro rfl; rw [F4] at z1; cases z1
      rw [← h2]
      generalize delH K L = D2 at *
      clear h2 hbn hown kL k5 k2 k3 k4 kH F2 F3 F4 F5 Ft h1 h4
      show ARun _ ⟨33, _, none, _⟩ _ (Item.inBlock 0 :: _) _
      replace dO := later dO
      replace dH := later dH
      (repeat' (first | refine wk ?_ | refine wk2 ?_ ?_ | with_reducible refine wkF fun _ _ _ => ?_ | with_reducible intro _ | exact ag | fail))
      have hs2 := Sub.upd (r := .cells [.s (.int .i64 0)]) (Sub.upd (r := .cells [.s (.int .i64 0)]) (Sub.upd (r := .cells [ownT b 1 (ws.map u1)]) dH.go g2) g3) g4
      have cv := (show Conv (upd (upd (upd D2 b2 (.cells [ownT b 1 (ws.map u1)])) b3 (.cells [.s (.int .i64 0)])) b4 (.cells [.s (.int .i64 0)])) H (ownT b 1 (ws.map u1)) (.vs 1 (ws.map u1)) from by
        rcases dO.go with q | ⟨q1, q2, q3, q4, q5⟩
        · rw [q]; exact conv_nils
        · exact conv_own hs2 (.inr (by rw [upd_eq, if_neg q4, upd_eq, if_neg q3, upd_eq, if_neg q2]; exact q1)) q5 (each_u1j _))
      exact Fin.done (vs := [ownT b 1 (ws.map u1), .s (.int .i64 0), .s (.int .i64 0)]) ag hs2 (Conv.tup (.cons cv (.cons (Conv.refl hs2 _) (.cons (Conv.refl hs2 _) .nil)))) ⟨rfl, rfl⟩
    · refine ⟨_, some .ret, _, _, _, _, _, upd_self _ _ _, by decide, fun D => ?_⟩
      show ARun _ ⟨33, _, none, _⟩ _ (.code .ret :: _) _
      rw [h1]
      refine ARun.retM ?_
      have n2 : b2 ≠ L := by rintro rfl; rw [hL] at F2; cases F2
      have n3 : b3 ≠ L := by rintro rfl; rw [hL] at F3; cases F3
      have n4 : b4 ≠ L := by rintro rfl; rw [hL] at F4; cases F4
      have gL : H L = none := hsub.gone hL
      have d2 : ∀ r2 r3 r4 p, delH (upd (upd (upd (upd H b2 r2) b3 r3) b4 r4) L p) L b2 = some r2 := fun r2 r3 r4 p => by
        unfold delH; rw [if_neg n2, upd_eq, if_neg n2, upd_eq, if_neg e24, upd_eq, if_neg e23, upd_self]
      have d3 : ∀ r2 r3 r4 p, delH (upd (upd (upd (upd H b2 r2) b3 r3) b4 r4) L p) L b3 = some r3 := fun r2 r3 r4 p => by
        unfold delH; rw [if_neg n3, upd_eq, if_neg n3, upd_eq, if_neg e34, upd_self]
      have d4 : ∀ r2 r3 r4 p, delH (upd (upd (upd (upd H b2 r2) b3 r3) b4 r4) L p) L b4 = some r4 := fun r2 r3 r4 p => by
        unfold delH; rw [if_neg n4, upd_eq, if_neg n4, upd_self]
      have dH : ∀ r2 r3 r4 p, Sub H (delH (upd (upd (upd (upd H b2 r2) b3 r3) b4 r4) L p) L) := fun r2 r3 r4 p x r hx => by
        have hn : ∀ y, H y = none → x ≠ y := fun y hy q => by rw [q, hy] at hx; cases hx
        unfold delH; rw [if_neg (hn _ gL), upd_eq, if_neg (hn _ gL), upd_eq, if_neg (hn _ g4), upd_eq, if_neg (hn _ g3), upd_eq, if_neg (hn _ g2)]; exact hx
      replace d2 := d2 (.cells [.nils]) (.cells [.s (.int .i64 i)]) (.cells [.s (.int .i64 e)])
      replace d3 := d3 (.cells [.nils]) (.cells [.s (.int .i64 i)]) (.cells [.s (.int .i64 e)])
      replace d4 := d4 (.cells [.nils]) (.cells [.s (.int .i64 i)]) (.cells [.s (.int .i64 e)])
      exact Fin.done (vs := [.nils, .s (.int .i64 i), .s (.int .i64 e)]) ag (dH _ _ _ _) (Conv.tup (.cons conv_nils (.cons (Conv.refl (dH _ _ _ _) _) (.cons (Conv.refl (dH _ _ _ _) _) .nil)))) ⟨rfl, rfl⟩
  · intro i s b ws hx htl hws hb hR
    replace hL : G0 L = none := hL
    have h5s : (G0 b5).isSome = true := by rw [F5]; rfl
    have kL := asmK_L hb h5s
    have k5 := asmK_5 hb h5s hL
    have k2 := asmK_at hb h5s hL F2 e25
    have k3 := asmK_at hb h5s hL F3 e35
    have k4 := asmK_at hb h5s hL F4 e45
    have klp := fun lq => asmK_lp (b5 := b5) hb lq
    have kH : Sub H (asmK G0 L b5 _ b ws) := fun x r hx => asmK_at hb h5s hL (hsub x r hx) (by rintro rfl; rw [g5] at hx; cases hx)
    have gL : H L = none := hsub.gone hL
    have n2 : b2 ≠ L := by rintro rfl; rw [hL] at F2; cases F2
    have n3 : b3 ≠ L := by rintro rfl; rw [hL] at F3; cases F3
    have n4 : b4 ≠ L := by rintro rfl; rw [hL] at F4; cases F4
    have n5 : b5 ≠ L := by rintro rfl; rw [hL] at F5; cases F5
    have m2 := n2.symm
    have m3 := n3.symm
    have m4 := n4.symm
    have m5 := n5.symm
    have ONE := fun (K : Heap) (hK : Sub H K) => one_c (H := K) g hN (hs.trans hK) (s := trimP s) (Nat.lt_of_le_of_lt (trimP_size s) (Nat.lt_of_le_of_lt (pieces_size s (List.mem_of_getElem? hx)) hz))
    have hdr : (pieces text 10).drop i = s :: (pieces text 10).drop (i + 1) := by rw [List.drop_eq_getElem_cons (List.getElem?_eq_some_iff.1 hx).1, (List.getElem?_eq_some_iff.1 hx).2]
    rw [hdr, asmR, if_neg (by rw [htl]; decide)] at hR
    have hfail : ∀ e, ((oneP (trimP s)).2 ≠ 0 ∧ e = 60) ∨ ((oneP (trimP s)).2 = 0 ∧ ws.length = 512 ∧ e = 5) → asmR (pieces text 10) 0 [] = (none, i, e) := by
      rintro e (⟨q1, rfl⟩ | ⟨q1, q2, rfl⟩)
      · rw [if_pos q1] at hR; exact hR.symm
      · rw [if_neg (fun q => q q1), if_pos q2] at hR; exact hR.symm
    have hgo : (oneP (trimP s)).2 = 0 → ws.length ≠ 512 → asmR ((pieces text 10).drop (i + 1)) (i + 1) (ws ++ [(oneP (trimP s)).1]) = asmR (pieces text 10) 0 [] := by
      intro q1 q2
      rw [if_neg (fun q => q q1), if_neg q2] at hR; exact hR
    have hi := (List.getElem?_eq_some_iff.1 hx).1
    refine YC.round kL rfl (by decide) ?_
    generalize asmK G0 L b5 _ b ws = K at *
    show ARun _ ⟨33, [], some L, _⟩ _ _ _
    generalize hj : (fun c => yDone L (some c) _) = jr
    generalize hZ : yDone L none _ = Z
    replace hj := later hj
    replace hZ := later hZ
    have kHL := fun lq => Sub.upd (r := lq) kH gL
    replace kHL := later kHL
    replace klp := later klp
    replace hfail := later hfail
    replace hgo := later hgo
    have hbq : ∀ lq, ws.map u1 ≠ [] → upd G0 L lq b = none := fun lq q => by
      have h := hb q
      rw [upd_eq] at h ⊢
      split at h
      · cases h
      · rename_i n; rw [if_neg n]; exact h
    replace hbq := later hbq
    replace hb := later hb
    replace hR := later hR
    simp only [setE]
    (repeat' (first | refine wk ?_ | refine wk2 ?_ ?_ | with_reducible refine wkF fun _ _ _ => ?_ | with_reducible intro _ | exact ag | fail))
    refine ARun.beginRound rfl kL ?_
    replace ONE := later ONE
    generalize hw : oneP (trimP s) = o at *
    obtain ⟨w, e⟩ := o
    simp only [] at ONE hfail hgo
    by_cases he : e = 0
    · subst he
      by_cases hl : ws.length = 512
      · have hl3 : ((ws.map u1).length : Int) = 512 := by simp only [List.length_map]; omega
        (repeat' (first | refine wk ?_ | refine wk2 ?_ ?_ | with_reducible refine wkF fun _ _ _ => ?_ | with_reducible intro _ | refine Calling.eq (ONE.go _ (kHL.go _)) ?_ | exact ag | fail))
        refine ARun.retR rfl ?_
        have hj := hj.go
        subst hj
        exact ⟨_, _, _, _, _, _, at_fail m2 m3 m4, _, sub_fail kH, .inr ⟨rfl, i, 5, hfail.go 5 (.inr ⟨rfl, hl, rfl⟩), rfl⟩⟩
      · have hl2 : ((ws.length : Int) == 512) = false := by simpa using fun q => hl (by omega)
        (repeat' (first | refine wk ?_ | refine wk2 ?_ ?_ | with_reducible refine wkF fun _ _ _ => ?_ | with_reducible intro _ | refine Calling.eq (ONE.go _ (kHL.go _)) ?_ | refine Doing.fresh (oc_build1 ap38 (fun _ h => by cases h; rfl) rfl rfl (by decide) (by decide)) fun _ _ _ => ?_ | exact ag | fail))
        rename_i b1 hb1 _
        refine Doing.by (asm_app' (klp.go _) ap38 us38 (by decide) (hbq.go _) h5s hL hws hb1) ?_
        rintro _ K2 ⟨b', q1, q2, rfl, hK2, q5, qL⟩
        replace q1 := later q1
        replace hK2 := later hK2
        (repeat' (first | refine wk ?_ | refine wk2 ?_ ?_ | with_reducible refine wkF fun _ _ _ => ?_ | with_reducible intro _ | exact ag | fail))
        refine ARun.doneR rfl ?_
        have hZ := hZ.go
        subst hZ
        refine ⟨_, _, _, _, _, _, (upd_eq _ _ _ _).trans ((if_neg m5).trans qL), _, ?_, .inl ⟨rfl, b', ws ++ [w], hi, hgo.go rfl hl, by simp only [List.length_append, List.length_cons, List.length_nil]; omega, fun _ => by
          have h := q1.go
          rw [upd_eq] at h ⊢
          split at h
          · cases h
          · rename_i n; rw [if_neg n]; exact h, rfl⟩⟩
        rw [hK2.go]
        exact sub_next q1.go q2
    · have he2 : (e != 0) = true := by simpa using he
      (repeat' (first | refine wk ?_ | refine wk2 ?_ ?_ | with_reducible refine wkF fun _ _ _ => ?_ | with_reducible intro _ | refine Calling.eq (ONE.go _ (kHL.go _)) ?_ | exact ag | fail))
      refine ARun.retR rfl ?_
      have hj := hj.go
      subst hj
      exact ⟨_, _, _, _, _, _, at_fail m2 m3 m4, _, sub_fail kH, .inr ⟨rfl, i, 60, hfail.go 60 (.inl ⟨he, rfl⟩), rfl⟩⟩
end Go.Abs
/- What the laws ask of all three. -/
namespace Go.Abs
set_option linter.unusedSimpArgs false
set_option linter.unusedVariables false
set_option maxHeartbeats 4000000
open Go.Proofs Go.Wd Go.RowKit
set_option linter.unusedVariables false
set_option linter.unusedSectionVars false
set_option maxRecDepth 8000
variable {H : Heap}
def awT : ByteArray := ⟨#[59, 32, 120, 10, 104, 97, 108, 116, 10, 119, 111, 114, 100, 32, 48, 48, 48, 48, 48, 48, 48, 55]⟩
def awL : ByteArray := ⟨#[108, 105, 32, 114, 49, 32, 48, 53]⟩
def awP : Ins := ⟨12, 1, 2, 0, -4⟩
theorem aw1 : awP.chk = 0 := by decide +kernel
theorem aw2 : awP.pr = ⟨#[108, 100, 32, 114, 49, 32, 114, 50, 32, 45, 52]⟩ := by decide +kernel
theorem aw3 : (parP awL).2 = 60 := by
  unfold parP
  rw [pieces_eq]
  decide +kernel
theorem aw4 : (splL 10 awT.data.toList).map (fun l => trimP (mk l)) = [⟨#[59, 32, 120]⟩, ⟨#[104, 97, 108, 116]⟩, ⟨#[119, 111, 114, 100, 32, 48, 48, 48, 48, 48, 48, 48, 55]⟩] := by decide +kernel
theorem aw5 : (oneP ⟨#[104, 97, 108, 116]⟩).2 = 0 := by
  have h : hasP ⟨#[104, 97, 108, 116]⟩ = false := by decide +kernel
  unfold oneP
  rw [h, if_neg (by decide)]
  unfold parP
  rw [pieces_eq]
  decide +kernel
theorem aw6 : oneP ⟨#[119, 111, 114, 100, 32, 48, 48, 48, 48, 48, 48, 48, 55]⟩ = (7, 0) := by
  have h : hasP ⟨#[119, 111, 114, 100, 32, 48, 48, 48, 48, 48, 48, 48, 55]⟩ = true := by decide +kernel
  have h2 : wpar (restP ⟨#[119, 111, 114, 100, 32, 48, 48, 48, 48, 48, 48, 48, 55]⟩) = (7, 0) := by decide +kernel
  unfold oneP
  rw [h, h2]; rfl
theorem aw7 : splL 10 awT.data.toList = [[59, 32, 120], [104, 97, 108, 116], [119, 111, 114, 100, 32, 48, 48, 48, 48, 48, 48, 48, 55]] := by decide +kernel
theorem aw8 : trimP (mk [59, 32, 120]) = ⟨#[59, 32, 120]⟩ ∧ trimP (mk [104, 97, 108, 116]) = ⟨#[104, 97, 108, 116]⟩ ∧ trimP (mk [119, 111, 114, 100, 32, 48, 48, 48, 48, 48, 48, 48, 55]) = ⟨#[119, 111, 114, 100, 32, 48, 48, 48, 48, 48, 48, 48, 55]⟩ := by decide +kernel
theorem aw9 : tells ⟨#[59, 32, 120]⟩ = false ∧ tells ⟨#[104, 97, 108, 116]⟩ = true ∧ tells ⟨#[119, 111, 114, 100, 32, 48, 48, 48, 48, 48, 48, 48, 55]⟩ = true := by decide +kernel
theorem awR : asmR (pieces awT 10) 0 [] = (some [(oneP ⟨#[104, 97, 108, 116]⟩).1, 7], 0, 0) := by
  rw [pieces_eq, aw7]
  simp only [List.map_cons, List.map_nil, asmR, aw8.1, aw8.2.1, aw8.2.2, aw9.1, aw9.2.1, aw9.2.2, aw5, aw6, if_true, reduceCtorEq, if_false, List.length_nil, List.length_cons, List.nil_append, List.cons_append, ne_eq, not_true_eq_false]
  rfl
theorem awake05_c {G : Heap} (g : GA G) (hN : NamesAt G) (hs : Sub G H) : AC Tryz.prog 12 [] H (fun r H' => r = .s (.bool true) ∧ H' = H) := by
  have PR := fun (K : Heap) (hK : Sub H K) => print_c (H := K) g hN (hs.trans hK) (x := awP) (by unfold Ins.ok awP; decide)
  have PA := fun (K : Heap) (hK : Sub H K) => parseP_c (H := K) g hN (hs.trans hK) (s := awL) (by decide)
  have AS := fun (K : Heap) (hK : Sub H K) => asm_c (H := K) g hN (hs.trans hK) (text := awT) (by decide)
  rw [aw1, aw2] at PR
  rw [aw3] at PA
  rw [awR] at AS
  have PR := fun (K : Heap) (hK : Sub H K) => PR K hK
  generalize (parP awL).1 = f at *
  generalize (oneP ⟨#[104, 97, 108, 116]⟩).1 = w at *
  simp only [Ins.enc_def, awP] at PR PA
  unfold awL at PA
  unfold awT at AS
  simp only [Option.getD_some, List.map_cons, List.map_nil, u1_def] at AS
  replace PR := later PR
  replace PA := later PA
  replace AS := later AS
  refine AC.body Tryz.func12 rfl rfl (n := 57) (res := [.tmp 0]) rfl rfl (by simp) ?_
  simp only [ent]
  (repeat' (first | refine wk ?_ | refine wk2 ?_ ?_ | with_reducible refine wkF fun _ _ _ => ?_ | with_reducible intro _ | refine Calling.eq (PR.go _ (by exact sb)) ?_ | refine Calling.eq (PA.go _ (by exact sb)) ?_ | refine Calling.eq (AS.go _ (by exact sb)) ?_ | exact ag | fail))
  exact fin0
end Go.Abs
/- The law AsmPrints. -/
namespace Go.Abs
set_option linter.unusedSimpArgs false
set_option linter.unusedVariables false
set_option maxHeartbeats 4000000
open Go.Proofs Go.Wd Go.RowKit
set_option linter.unusedVariables false
set_option linter.unusedSectionVars false
set_option maxRecDepth 8000
set_option maxHeartbeats 1600000
variable {H : Heap}
theorem prints05_c {G : Heap} (g : GA G) (hN : NamesAt G) (hs : Sub G H) {x : Ins} (hx : x.ok) : AC Tryz.prog 3 [.agg x.enc] H (fun r H' => r = .s (.bool true) ∧ H' = H) := by
  have PR := fun (K : Heap) (hK : Sub H K) => print_c (H := K) g hN (hs.trans hK) hx
  have PQ := fun (K : Heap) => rprint_c hx K
  have MN := fun (K : Heap) (hK : Sub H K) => mnem_c (H := K) hN (hs.trans hK) hx.1
  have MQ := fun (K : Heap) => rmnem_c hx.1 K
  have AW := fun (K : Heap) (hK : Sub H K) => awake05_c (H := K) g hN (hs.trans hK)
  generalize x.pr = pr at *
  generalize x.chk = ck at *
  generalize mn x.o = mo at *
  simp only [Ins.enc_def] at *
  replace PR := later PR
  replace MN := later MN
  replace AW := later AW
  clear hx hN g hs
  refine AC.body Tryz.func3 rfl rfl (n := 37) (res := [.tmp 2]) rfl rfl (by simp) ?_
  simp only [ent]
  (repeat' (first | refine wk ?_ | refine wk2 ?_ ?_ | with_reducible refine wkF fun _ _ _ => ?_ | with_reducible intro _ | refine Calling.eq (PR.go _ (by exact sb)) ?_ | refine Calling.eq (PQ _) ?_ | exact ag | fail))
  refine ARun.drawT mixed [0, 1, 2, 3, 4, 5, 6, 7, 8, 9, 10, 12, 13] (.alt 11 [0, 1, 2, 3, 4, 5, 6, 7, 9, 12, 13] [] (.alt 14 [0, 1, 2, 3, 4, 5, 6, 7, 9, 10, 12] [15, 16, 17] (.alt 18 [0, 1, 2, 3, 4, 5, 6, 7, 8, 9, 10, 12, 13, 15, 16] [19, 20] .leaf .nil) .nil) .nil) (by kernel_rfl) (by rfl) ?_
  (repeat' (first | refine wk ?_ | refine wk2 ?_ ?_ | with_reducible refine wkF fun _ _ _ => ?_ | with_reducible intro _ | refine Calling.eq (MN.go _ (by exact sb)) ?_ | refine Calling.eq (MQ _) ?_ | refine Calling.eq (AW.go _ (by exact sb)) ?_ | exact ag | fail))
  exact fin0
end Go.Abs
/- From a contract to a row, round 5: what the library's variables hold. -/
namespace Go.Proofs.YtoeplpkmjfecgaaGreatDoor
open Go.RowKit Go.Lib Go.Proofs.YtoeplpkmjfecgaaGreatDoorW.PrintWords
set_option linter.unusedVariables false
noncomputable def namesD : DataW Unit := .agg (Go.Abs.opN.map fun x => .lit (.string x.data.toList))
structure Glob (w : World) : Prop where
  m : ∃ m, w.cell? ⟨2, 0, none⟩ = some (.int .i64 m)
  t : VarReads Tryz.prog w "internal/strconv.uint64pow10" (tabData .u64 pow10Tab)
  s : ∃ n d, VarReads Tryz.prog w "strconv.ErrSyntax" (.iface n d)
  r : ∃ n d, VarReads Tryz.prog w "strconv.ErrRange" (.iface n d)
  n : VarReads Tryz.prog w "budwood/asm.names" namesD
theorem laidH_plain (P : Program) (laid : List (String × DataW Unit)) (w : World) (h : (laid.all fun x => x.2.handleName?.isNone) = true) (hl : laidMetH P laid w) : laidMet P laid w := by
  have e : (laid.filter fun x => x.2.handleName?.isSome) = [] := by
    rw [List.filter_eq_nil_iff]
    intro x hx hs
    have := List.all_eq_true.1 h x hx
    cases hn : x.2.handleName? with
    | none => rw [hn] at hs; cases hs
    | some s => rw [hn] at this; cases this
  unfold laidMetH at hl
  rw [e] at hl
  exact hl
theorem tab_of_reads5 {W : World} (h : VarReads Tryz.prog W "internal/strconv.uint64pow10" (tabData .u64 pow10Tab)) : Lib.TabIs Tryz.prog W "internal/strconv.uint64pow10" .u64 Lib.pow10Tab := by
  obtain ⟨g, t, cs, fuel, p, hg, hty, hvar, hd⟩ := h
  have hg2 : Tryz.prog.globalNamed "internal/strconv.uint64pow10" = some 1 := by kernel_rfl
  obtain rfl := Option.some.inj (hg2.symm.trans hg)
  have ht2 : (Tryz.prog.globals[1]?).map (·.type) = some 139 := by kernel_rfl
  obtain rfl := Option.some.inj (ht2.symm.trans hty)
  have hcs := cells_of_tab Tryz.underlying139 Tryz.underlying119 (by kernel_rfl) (by kernel_rfl) hd
  unfold Lib.TabIs
  rw [hvar, ← hcs]
theorem iface_of_trod {w : World} {P : Program} {t : TypeId} {m : Array (String × TypeId)} {fuel : Nat} {cs : List Value} {n : String} {d : DataW Unit} {p : List MemPlace} (ht : P.underlying t = some (.interface m)) (h : DataW.trod (fun _ => ()) P w 0 (fun _ => true) false fuel t cs = some (.iface n d, p)) : ∃ te pe, cs = [.iface te pe] := by
  cases fuel with
  | zero => simp [DataW.trod] at h
  | succ fuel =>
    unfold DataW.trod at h
    rw [ht] at h
    split at h <;> simp_all
theorem err_of_reads {w : World} {name : String} {g0 : Nat} (hg2 : Tryz.prog.globalNamed name = some g0) (ht2 : (Tryz.prog.globals[g0]?).map (·.type) = some 70) (h : ∃ n d, VarReads Tryz.prog w name (.iface n d)) : ∃ te pe, w.cell? ⟨g0, 0, none⟩ = some (.iface te pe) := by
  obtain ⟨n, d, g, t, cs, fuel, p, hg, hty, hvar, hd⟩ := h
  obtain rfl := Option.some.inj (hg2.symm.trans hg)
  obtain rfl := Option.some.inj (ht2.symm.trans hty)
  obtain ⟨te, pe, hcs⟩ := iface_of_trod Tryz.underlying70 hd
  refine ⟨te, pe, ?_⟩
  have h0 := World.var?_cell hg hvar 0
  have h1 : cs[0]? = some (.iface te pe) := by rw [← Array.getElem?_toList, hcs]; rfl
  rw [← h1]; simpa using h0
end Go.Proofs.YtoeplpkmjfecgaaGreatDoor
namespace Go.Abs
set_option linter.unusedSimpArgs false
set_option linter.unusedVariables false
open Go.Proofs Go.RowKit Go.Lib Go.Proofs.YtoeplpkmjfecgaaGreatDoor Go.Proofs.YtoeplpkmjfecgaaGreatDoorW.PrintWords
set_option linter.unusedVariables false
/-- The first n blocks, held as they are. -/
def heldAs (w : World) (n : Nat) : Heap := fun b => if b < n then (w.heap[b]?).map .exact else none
theorem heldAs_rel (w : World) (n : Nat) : HRel (heldAs w n) w := by
  intro b r h
  unfold heldAs at h
  split at h
  · cases e : w.heap[b]? with
    | none => rw [e] at h; cases h
    | some o => rw [e] at h; cases h; exact e
  · cases h
theorem heldAs_keep {w w' : World} {n : Nat} (h : HRel (heldAs w n) w') {b : Nat} (hb : b < n) (hs : b < w.heap.size) : w'.heap[b]? = w.heap[b]? := by
  have e : w.heap[b]? = some w.heap[b] := Array.getElem?_eq_getElem hs
  have := h b (.exact w.heap[b]) (by unfold heldAs; rw [if_pos hb, e]; rfl)
  rw [e]; exact this
theorem heldAs_none {w : World} {n b : Nat} (h : n ≤ b) : heldAs w n b = none := by unfold heldAs; rw [if_neg (by omega)]
theorem cell_lt' {w : World} {a : Addr} {v : Value} (hc : w.cell? a = some v) : a.block < w.heap.size := by
  rcases Nat.lt_or_ge a.block w.heap.size with h | h
  · exact h
  · simp [World.cell?, Array.getElem?_eq_none h] at hc
/-- A call that leaves the held blocks as they are leaves all blocks as they are. -/
theorem below_of {w w' : World} {n : Nat} (he : Ext (heldAs w n) w (heldAs w n) w') (hr : HRel (heldAs w n) w') : Below w.heap.size w w' where
  os := he.os
  tape := he.tape
  output := he.output
  size := he.size
  block := fun k hk => by
    by_cases h : k < n
    · exact heldAs_keep hr h hk
    · exact (he.keep k hk (heldAs_none (by omega))).1
theorem AC.calls {P : Program} {g : FuncId} {fn : Func} {args : List TV} {H : Heap} {C : TV → Heap → Prop} (h : AC P g args H C) (hf : P.funcs[g]? = some fn) (hb : fn.body.isNone = false) (hname : (fn.name == "runtime.NumGoroutine") = false)
    {argv : List Value} {w : World} (ha : RepL w (Fr H w) args argv) (hh : HRel H w) : Calls P g argv.toArray w fun e w' => ∃ v, e = .returned v ∧ After C H w v w' := by
  rcases h argv w ha hh with h | ⟨v, w', h, _⟩
  · exact h.2
  · have : (callFunc g argv.toArray).run P w = .ok (.enter g argv.toArray) w := by
      unfold callFunc
      rw [run_ok (w' := w) (a := P) rfl]
      simp only [hf, hname, Bool.false_eq_true, if_false, hb]; rfl
    rw [this] at h; cases h
/-- A law that always tells true, in the kit's own words. -/
theorem AC.law {P : Program} {g : FuncId} {fn : Func} {args : List TV} {w : World} {n : Nat} (h : AC P g args (heldAs w n) (fun r H' => r = .s (.bool true) ∧ H' = heldAs w n)) (hf : P.funcs[g]? = some fn) (hb : fn.body.isNone = false) (hname : (fn.name == "runtime.NumGoroutine") = false)
    {argv : List Value} (ha : RepL w (Fr (heldAs w n) w) args argv) : Calls P g argv.toArray w fun e w' => e = .returned (.bool true) ∧ Below w.heap.size w w' := by
  refine (h.calls hf hb hname ha (heldAs_rel w n)).mono fun e w' ⟨v, he, r, H', ⟨hr, hH⟩, hv, hrel, hext⟩ => ?_
  subst he hr hH
  simp only [Rep] at hv
  subst hv
  exact ⟨rfl, below_of hext hrel⟩
theorem keep_var {w w' : World} {n g : Nat} {name : String} {cs : Array Value} (hg : Tryz.prog.globalNamed name = some g) (hr : HRel (heldAs w n) w') (hn : g < n) (h : w.var? Tryz.prog name = some cs) : w'.var? Tryz.prog name = some cs := by
  unfold World.var? at h ⊢
  rw [hg] at h ⊢
  simp only [Option.bind_some] at h ⊢
  cases e : w.heap[g]? with
  | none => rw [e] at h; cases h
  | some o =>
    have hlt : g < w.heap.size := (Array.getElem?_eq_some_iff.1 e).1
    rw [heldAs_keep hr hn hlt]
    exact h
theorem keep_cell {w w' : World} {n b off : Nat} {v : Value} (hr : HRel (heldAs w n) w') (hb : b < n) (hv : w.cell? ⟨b, off, none⟩ = some v) : w'.cell? ⟨b, off, none⟩ = some v := by
  have hk := heldAs_keep hr hb (cell_lt' hv)
  rw [← hv]; simp only [World.cell?, hk]
theorem glob_ga {w : World} (hG : Glob w) : GA (heldAs w 9) where
  exact := fun b hb => by
    unfold heldAs at hb ⊢
    split at hb
    · rename_i h; rw [if_pos h]
      cases e : w.heap[b]? with
      | none => rw [e] at hb; exact absurd rfl hb
      | some o => exact ⟨o, rfl⟩
    · exact absurd rfl hb
  pow := fun w' hr => keep_var (by kernel_rfl) hr (g := 1) (by decide) (tab_of_reads5 hG.t)
  maxlen := fun w' hr => by
    obtain ⟨m, h⟩ := hG.m
    exact ⟨m, keep_cell hr (by decide) h⟩
  errS := fun w' hr => by
    obtain ⟨te, pe, h⟩ := err_of_reads (g0 := 3) (by kernel_rfl) (by kernel_rfl) hG.s
    exact ⟨_, keep_cell hr (by decide) h, .inr ⟨te, pe, rfl⟩⟩
  errR := fun w' hr => by
    obtain ⟨te, pe, h⟩ := err_of_reads (g0 := 4) (by kernel_rfl) (by kernel_rfl) hG.r
    exact ⟨_, keep_cell hr (by decide) h, .inr ⟨te, pe, rfl⟩⟩
theorem glob_names {w : World} (hG : Glob w) : NamesAt (heldAs w 9) := by
  obtain ⟨g, t, cs, fuel, p, hg, hty, hvar, hd⟩ := hG.n
  have hg2 : Tryz.prog.globalNamed "budwood/asm.names" = some 0 := by kernel_rfl
  obtain rfl := Option.some.inj (hg2.symm.trans hg)
  have ht2 : (Tryz.prog.globals[0]?).map (·.type) = some 56 := by kernel_rfl
  obtain rfl := Option.some.inj (ht2.symm.trans hty)
  have hv := hvar
  unfold World.var? at hv
  rw [hg] at hv
  simp only [Option.bind_some] at hv
  split at hv
  · rename_i c e fz hb
    cases hv
    refine ⟨cs, e, fz, ?_, fun i x hx => ?_⟩
    · unfold heldAs; rw [if_pos (by decide), hb]; rfl
    · have hi : i < 22 := (List.getElem?_eq_some_iff.1 hx).1
      obtain ⟨f2, d, q, h1, h2⟩ := array_elem Tryz.underlying56 hd i hi
      rw [show Tryz.prog.cellsOf 9 = 1 by kernel_rfl, Nat.mul_one] at h2
      obtain ⟨s, h3, h4, _⟩ := DataW.trod_string Tryz.underlying9 h2
      rw [List.getElem?_map, hx] at h1
      have h5 := congrArg (·[0]?) h3
      simp only [Prod.mk.injEq] at h4
      obtain ⟨h4, _⟩ := h4
      rw [h4] at h1
      simp only [Option.map_some, Option.some.injEq, DataW.lit.injEq, Lit.string.injEq] at h1
      have hs : x = s := by
        apply ByteArray.ext
        apply Array.ext'
        exact h1
      rw [hs]
      simpa [List.getElem?_take, List.getElem?_drop] using h5
  · cases hv
theorem prints05_calls {w : World} (hG : Glob w) {o d a b i : Int} (ho : 0 ≤ o ∧ o < 256) (hd : 0 ≤ d ∧ d < 256) (ha : 0 ≤ a ∧ a < 256) (hb : 0 ≤ b ∧ b < 256) (hi : -2147483648 ≤ i ∧ i < 2147483648) :
    Calls Tryz.prog 3 #[.agg #[.int .u8 o, .int .u8 d, .int .u8 a, .int .u8 b, .int .i32 i]] w fun e w' => e = .returned (.bool true) ∧ Below w.heap.size w w' :=
  AC.law (argv := [_]) (prints05_c (glob_ga hG) (glob_names hG) (Sub.refl _) (x := ⟨o.toNat, d.toNat, a.toNat, b.toNat, i⟩) (by unfold Ins.ok; simp only []; omega)) Tryz.func3 rfl rfl (by
    simp only [RepL, Rep, Ins.enc_def]
    rw [Int.toNat_of_nonneg ho.1, Int.toNat_of_nonneg hd.1, Int.toNat_of_nonneg ha.1, Int.toNat_of_nonneg hb.1]
    exact ⟨_, _, rfl, ⟨_, rfl, _, _, rfl, rfl, _, _, rfl, rfl, _, _, rfl, rfl, _, _, rfl, rfl, _, _, rfl, rfl, rfl⟩, rfl⟩)
end Go.Abs
