import Derived.Test.YtgecghkendfabaaDoorMg4
import Derived.Test.YtgecghkendfabaaDoorAb20
/- Modules that may be loaded: what is true of them, and back. -/
namespace Go.Abs
set_option linter.unusedSimpArgs false
set_option linter.unusedVariables false
set_option maxHeartbeats 4000000
open Go.Proofs Go.Nm Go.Wd
set_option linter.unusedVariables false
set_option maxRecDepth 8000
variable {H : Heap}
/-- Nothing is wrong with a module. -/
structure Mod.fine (m : Mod) : Prop where
  obj : m.obj = 0
  nms : decide (0 ≤ m.nmI) = false
  tws : decide (0 ≤ m.twI) = false
  co0 : (((m.co.length : Nat) : Int) == 0) = false
  coE : decide (((m.co.length : Nat) : Int) < m.ex.length) = false
  wds : decide (0 ≤ fi badW m.co) = false
  pls : decide (0 ≤ fi m.badP (List.range m.re.length)) = false
  fts : decide (0 ≤ fi (fun r => !m.fit r) m.re) = false
  ths : decide (0 ≤ fi (fun r => !m.thr r) m.re) = false
  lse : decide (0 ≤ fi m.loose (List.range m.co.length)) = false
theorem flt_eq (m : Mod) : m.flt = if m.obj != 0 then (1, 0) else if decide (0 ≤ m.nmI) then (2, m.nmI) else if decide (0 ≤ m.twI) then (3, m.twI) else
    if ((m.co.length : Nat) : Int) == 0 || decide (((m.co.length : Nat) : Int) < m.ex.length) then (4, 0) else if decide (0 ≤ fi badW m.co) then (5, fi badW m.co) else
    if decide (0 ≤ fi m.badP (List.range m.re.length)) then (6, fi m.badP (List.range m.re.length)) else if decide (0 ≤ fi (fun r => !m.fit r) m.re) then (7, fi (fun r => !m.fit r) m.re) else
    if decide (0 ≤ fi (fun r => !m.thr r) m.re) then (8, fi (fun r => !m.thr r) m.re) else if decide (0 ≤ fi m.loose (List.range m.co.length)) then (9, fi m.loose (List.range m.co.length)) else (0, 0) := by
  unfold Mod.flt
  cases q0 : (m.obj != 0) with
  | true => rfl
  | false =>
    rw [txt_alt (by simpa using q0)]
    unfold Mod.wrd Mod.rel
    generalize decide (0 ≤ m.nmI) = b1
    generalize decide (0 ≤ m.twI) = b2
    generalize (((m.co.length : Nat) : Int) == 0 || decide (((m.co.length : Nat) : Int) < m.ex.length)) = b3
    generalize decide (0 ≤ fi badW m.co) = b4
    cases b1
    · cases b2
      · cases b3
        · cases b4 <;> rfl
        · rfl
      · rfl
    · rfl
theorem fine_iff {m : Mod} : m.fine ↔ m.flt.1 = 0 := by
  rw [flt_eq]
  constructor
  · rintro ⟨h0, h1, h2, h3, h4, h5, h6, h7, h8, h9⟩
    rw [h0, h1, h2, h3, h4, h5, h6, h7, h8, h9]; rfl
  · intro h
    cases q0 : (m.obj != 0) with
    | true => rw [q0] at h; simp at h
    | false =>
      cases q1 : decide (0 ≤ m.nmI) with
      | true => rw [q0, q1] at h; simp at h
      | false => cases q2 : decide (0 ≤ m.twI) with
        | true => rw [q0, q1, q2] at h; simp at h
        | false => cases q3 : (((m.co.length : Nat) : Int) == 0) with
          | true => rw [q0, q1, q2, q3] at h; simp at h
          | false => cases q4 : decide (((m.co.length : Nat) : Int) < m.ex.length) with
            | true => rw [q0, q1, q2, q3, q4] at h; simp at h
            | false => cases q5 : decide (0 ≤ fi badW m.co) with
              | true => rw [q0, q1, q2, q3, q4, q5] at h; simp at h
              | false => cases q6 : decide (0 ≤ fi m.badP (List.range m.re.length)) with
                | true => rw [q0, q1, q2, q3, q4, q5, q6] at h; simp at h
                | false => cases q7 : decide (0 ≤ fi (fun r => !m.fit r) m.re) with
                  | true => rw [q0, q1, q2, q3, q4, q5, q6, q7] at h; simp at h
                  | false => cases q8 : decide (0 ≤ fi (fun r => !m.thr r) m.re) with
                    | true => rw [q0, q1, q2, q3, q4, q5, q6, q7, q8] at h; simp at h
                    | false => cases q9 : decide (0 ≤ fi m.loose (List.range m.co.length)) with
                      | true => rw [q0, q1, q2, q3, q4, q5, q6, q7, q8, q9] at h; simp at h
                      | false => exact ⟨by simpa using q0, q1, q2, q3, q4, q5, q6, q7, q8, q9⟩
theorem chk_fine {m : Mod} (h : (m.chk != 0) = false) : m.fine := fine_iff.2 (by
  unfold Mod.chk at h
  cases q : (m.flt.1 != 0) with
  | true => rw [q] at h; simp at h
  | false => simpa using q)
theorem fine_chk {m : Mod} (h : m.fine) : m.chk = 0 := by
  unfold Mod.chk; rw [fine_iff.1 h]; rfl
def encI (n : Nat) : Value := .int .i64 n
theorem eqInt (a b : Int) : eqTV Tryd.prog 9 3 (.s (.int .i64 a)) (.s (.int .i64 b)) = some (a == b) := by kernel_rfl
theorem rep_encI (w : World) (F : Nat → Prop) (n : Nat) : Rep w F (.s (.int .i64 n)) (encI n) := by simp only [Rep, encI]
theorem intK : KeyP Tryd.prog 3 encI where
  eq := fun w a b => by
    have h := eqTV_run (P := Tryd.prog) (w := w) (F := fun _ => True) (d' := 9991) (eqInt a b) (rep_encI w _ a) (rep_encI w _ b)
    have e : ((a : Int) == (b : Int)) = decide (a = b) := by rw [Bool.eq_iff_iff]; simp; omega
    rw [e] at h
    exact h
  chk := fun w e a => rfl
  under := ⟨_, rfl, fun a b => .inr (by
    have e : ((a : Int) == (b : Int)) = decide (a = b) := by rw [Bool.eq_iff_iff]; simp; omega
    rw [← e]; rfl)⟩
  same := fun a => by simp [Instr.sameBits, encI]
/-- The words of code that the first relocations name. -/
def Mod.keys (m : Mod) (i : Nat) : List Nat := ((m.re.take i).filter (fun r => r.spot.1)).map (·.a)
theorem keys_zero (m : Mod) : m.keys 0 = [] := by unfold Mod.keys; simp
theorem keys_succ {m : Mod} {i : Nat} {r : Rlc} (h : m.re[i]? = some r) : m.keys (i + 1) = if r.spot.1 then m.keys i ++ [r.a] else m.keys i := by
  unfold Mod.keys
  rw [List.take_add_one, h]
  simp only [Option.toList_some, List.filter_append, List.map_append]
  cases hq : r.spot.1 <;> simp [hq]
theorem keys_in {m : Mod} {i a : Nat} : inB a (m.keys i) = inB (true, a) ((m.re.take i).map Rlc.spot) := by
  unfold inB Mod.keys
  rw [Bool.eq_iff_iff]
  simp only [decide_eq_true_eq, List.mem_map, List.mem_filter]
  constructor
  · rintro ⟨r, ⟨h1, h2⟩, rfl⟩; exact ⟨r, h1, Prod.ext h2 rfl⟩
  · rintro ⟨r, h1, h2⟩; exact ⟨r, ⟨h1, congrArg Prod.fst h2⟩, congrArg Prod.snd h2⟩
theorem fine_re {m : Mod} (h : m.fine) {i : Nat} {r : Rlc} (hr : m.re[i]? = some r) : r.a < m.len r ∧ inB r.spot ((m.re.take i).map Rlc.spot) = false ∧ m.fit r = true := by
  have h1 := fi_all h.pls i (by rw [List.mem_range]; exact (List.getElem?_eq_some_iff.1 hr).1)
  unfold Mod.badP at h1
  rw [hr] at h1
  obtain ⟨h2, h3⟩ := Bool.or_eq_false_iff.1 h1
  have h3 := of_decide_eq_false h3
  refine ⟨by omega, h2, ?_⟩
  simpa using fi_all h.fts r (List.mem_of_getElem? hr)
theorem fine_co {m : Mod} (h : m.fine) {i w : Nat} (hw : m.co[i]? = some w) : (decE w != 0) = false ∧ (((dec w).o : Int) == 21) = false ∧ ((((dec w).o : Int) == 17) = true → inB i (m.keys m.re.length) = true) := by
  have h1 := fi_all h.wds w (List.mem_of_getElem? hw)
  unfold badW at h1
  obtain ⟨h2, h3⟩ := Bool.or_eq_false_iff.1 h1
  refine ⟨h2, h3, fun h4 => ?_⟩
  have h5 := fi_all h.lse i (by rw [List.mem_range]; exact (List.getElem?_eq_some_iff.1 hw).1)
  unfold Mod.loose at h5
  rw [hw] at h5
  simp only [h4, Bool.true_and] at h5
  rw [keys_in, List.take_length]
  simpa using h5
theorem k456 (k : Nat) : (dataK k = true → ((k : Int) == 4) = true ∨ (((k : Int) == 4) = false ∧ ((k : Int) == 5) = true) ∨ (((k : Int) == 4) = false ∧ ((k : Int) == 5) = false ∧ ((k : Int) == 6) = true)) ∧ (dataK k = false → ((k : Int) == 4) = false ∧ ((k : Int) == 5) = false ∧ ((k : Int) == 6) = false) := by
  unfold dataK
  cases ((k : Int) == 4) <;> cases ((k : Int) == 5) <;> cases ((k : Int) == 6) <;> simp
theorem validCalls_c {G : Heap} (g : GH G) (hs : Sub G H) (m : Mod) (hm : m.num) : AC Tryd.prog 4 [m.tv] H (fun r H' => r = .s (.bool true) ∧ H' = H) := by
  refine AC.body Tryd.func4 rfl rfl (n := 121) (res := [.tmp 2]) rfl rfl (by simp) ?_
  simp only [ent]
  have S1 := fun H => rsize_c m H
  have W := later fun (K : Heap) (hs : Sub G K) => awake_c g hs
  have M1 := later fun (hm : m.ok) (K : Heap) (hs : Sub G K) => vCheck_c g hs m hm
  have hok := later fun (h : decide ((2000 : Int) < m.size) = false) => ok_of hm (little_of h)
  have hfi := later fun (h : (m.chk != 0) = false) => chk_fine h
  clear hm
  simp only [Mod.tv_def] at S1 M1 ⊢
  generalize m.size = s1 at *
  generalize m.chk = c1 at *
  (repeat' (first | refine wk ?_ | refine wk2 ?_ ?_ | with_reducible refine wkF fun _ _ _ => ?_ | with_reducible intro _ | exact ag | fail))
  rename_i v hv hvn
  have hsv := later fun r => Sub.upd (r := r) hs (hs.none hv)
  cases q1 : decide ((2000 : Int) < s1) with
  | true =>
    (repeat' (first | refine wk ?_ | refine wk2 ?_ ?_ | with_reducible refine wkF fun _ _ _ => ?_ | with_reducible intro _ | refine Calling.eq (S1 _) ?_ | refine Calling.eq (W.go _ (hsv.go _)) ?_ | exact ag | fail))
    exact fin0
  | false =>
    have hko := later (hok.go q1)
    replace M1 := later (M1.go hko.go)
    cases q2 : (c1 != 0) with
    | true =>
      (repeat' (first | refine wk ?_ | refine wk2 ?_ ?_ | with_reducible refine wkF fun _ _ _ => ?_ | with_reducible intro _ | refine Calling.eq (S1 _) ?_ | refine Calling.eq (M1.go _ (hsv.go _)) ?_ | refine Calling.eq (W.go _ (hsv.go _)) ?_ | exact ag | fail))
      exact fin0
    | false =>
      have hf := later (hfi.go q2)
      (repeat' (first | refine wk ?_ | refine wk2 ?_ ?_ | with_reducible refine wkF fun _ _ _ => ?_ | with_reducible intro _ | refine Calling.eq (S1 _) ?_ | refine Calling.eq (M1.go _ (hsv.go _)) ?_ | refine Doing.fresh (oc_makeSet encI) fun _ _ _ => ?_ | exact ag | fail))
      clear S1 M1 q1 q2 hok hfi
      rename_i b hb hbn
      have hsvb : ∀ r2, Sub G (upd (upd H v (.cells m.cells)) b r2) := fun r2 => Sub.upd (hsv.go _) ((hsv.go _).none hb)
      replace hsvb := later hsvb
      refine ARun.rounds (fun i : Nat => ⟨[(1, .s (.pointer (some ⟨v, 0, none⟩))), (3, .s (.map (some b))), (4, .s (.int .i64 i))], upd (upd H v (.cells m.cells)) b (setR encI (m.keys i))⟩) (fun i => m.re.length - i) (fun i => i ≤ m.re.length) ?_ 0 (by omega) ?_
      · rintro i hi next
        have lre := later hko.go.lre
        by_cases hlt : i < m.re.length
        · have h1 : (i : Int) < m.re.length := by omega
          have h2 : (0 : Int) ≤ i := by omega
          obtain ⟨x, hx⟩ := at_ hlt
          have hx1 := vget relE hx
          rw [relE_def] at hx1
          have hw := w64s (i := i) (by have := lre.go; omega)
          have e16 := u16_i64 ((hko.go.re x (List.mem_of_getElem? hx)).2.1)
          obtain ⟨f1, f2, f3⟩ := fine_re hf.go hx
          have nx := next.go (i + 1) (by omega) (by omega)
          have ks := keys_succ hx
          rw [ks] at nx
          have hlen : m.len x = if x.spot.1 then m.co.length else m.da.length := rfl
          have hk : x.spot.1 = !dataK x.k := rfl
          have hsp0 : x.spot = (x.spot.1, x.a) := rfl
          rw [hsp0] at f2
          have hcase := k456 x.k
          cases hsp : x.spot.1 with
          | false =>
            rw [hsp] at hlen nx hk
            simp only [Bool.false_eq_true, if_false] at hlen nx
            rw [hlen] at f1
            have hda : dataK x.k = true := by simpa using hk
            obtain ⟨y, hy⟩ := at_ f1
            have hy1 := vget u1 hy
            rw [u1_def] at hy1
            have f4 : ((y : Int) != 0) = false := by
              unfold Mod.fit at f3
              rw [hsp] at f3
              simp [List.getD_eq_getElem?_getD, hy] at f3
              simp [f3]
            have h3 : decide ((m.da.length : Int) ≤ x.a) = false := by simp; omega
            have h4 : (0 : Int) ≤ x.a := by omega
            have hcase := hcase.1 hda
            clear hsp hk hda f1 f2 f3 hlen ks next hx hy hsp0
            simp only [Mod.cells] at nx ⊢
            rcases hcase with h | ⟨h, h'⟩ | ⟨h, h', h''⟩
            all_goals
              (repeat' (first | refine wk ?_ | refine wk2 ?_ ?_ | with_reducible refine wkF fun _ _ _ => ?_ | with_reducible intro _ | exact ag | fail))
              exact ARun.weaken nx (leK (by exact sb))
          | true =>
            rw [hsp] at hlen nx hk f2
            simp only [if_true] at hlen nx
            rw [hlen] at f1
            have hda : dataK x.k = false := by simpa using hk
            have f4 : inB x.a (m.keys i) = false := by rw [keys_in]; exact f2
            have h3 : decide ((m.co.length : Int) ≤ x.a) = false := by simp; omega
            have h4 : (0 : Int) ≤ x.a := by omega
            obtain ⟨h5, h6, h7⟩ := hcase.2 hda
            have h8 : (x.a : Int) < m.co.length := by omega
            clear hsp hk hda f1 f2 f3 hlen ks next hx hsp0 hcase
            simp only [Mod.cells] at nx ⊢
            (repeat' (first | refine wk ?_ | refine wk2 ?_ ?_ | with_reducible refine wkF fun _ _ _ => ?_ | with_reducible intro _ | refine Doing.eq (oc_hasB f4 intK um39 zt4 (ag) rep_s) ?_ | refine Doing.eq (oc_putN f4 intK um39 (ag) rep_s) ?_ | exact ag | fail))
            exact ARun.weaken nx (leK (by exact sb))
        · have h1 : decide ((i : Int) < m.re.length) = false := by simp; omega
          obtain rfl : i = m.re.length := by omega
          clear next
          simp only [Mod.cells]
          (repeat' (first | refine wk ?_ | refine wk2 ?_ ?_ | with_reducible refine wkF fun _ _ _ => ?_ | with_reducible intro _ | exact ag | fail))
          refine ARun.rounds (fun i : Nat => ⟨[(1, .s (.pointer (some ⟨v, 0, none⟩))), (3, .s (.map (some b))), (6, .s (.int .i64 i))], upd (upd H v (.cells m.cells)) b (setR encI (m.keys m.re.length))⟩) (fun i => m.co.length - i) (fun i => i ≤ m.co.length) ?_ 0 (by omega) ?_
          · rintro i hi next
            have lco := later hko.go.lco
            by_cases hlt : i < m.co.length
            · have h1 : (i : Int) < m.co.length := by omega
              have h2 : (0 : Int) ≤ i := by omega
              obtain ⟨x, hx⟩ := at_ hlt
              have hx1 := vget u1 hx
              rw [u1_def] at hx1
              have hw := w64s (i := i) (by have := lco.go; omega)
              obtain ⟨f1, f2, f3⟩ := fine_co hf.go hx
              have nx := next.go (i + 1) (by omega) (by omega)
              have D := fun H => decode_c (H := H) (hko.go.co x (List.mem_of_getElem? hx))
              rw [Ins.enc_def] at D
              clear next hx
              simp only [Mod.cells] at nx ⊢
              cases q1 : (((dec x).o : Int) == 17) with
              | false =>
                clear f3
                (repeat' (first | refine wk ?_ | refine wk2 ?_ ?_ | with_reducible refine wkF fun _ _ _ => ?_ | with_reducible intro _ | refine Calling.eq (D _) ?_ | exact ag | fail))
                exact ARun.weaken nx (leK (by exact sb))
              | true =>
                have f4 := f3 q1
                clear f3
                (repeat' (first | refine wk ?_ | refine wk2 ?_ ?_ | with_reducible refine wkF fun _ _ _ => ?_ | with_reducible intro _ | refine Calling.eq (D _) ?_ | refine Doing.eq (oc_hasB f4 intK um39 zt4 (ag) rep_s) ?_ | exact ag | fail))
                exact ARun.weaken nx (leK (by exact sb))
            · have h1 : decide ((i : Int) < m.co.length) = false := by simp; omega
              obtain rfl : i = m.co.length := by omega
              have h2 := hf.go.co0
              have h3 := hf.go.coE
              have h4 : decide ((m.ex.length : Int) ≤ m.co.length) = true := by simp at h3 ⊢; omega
              have h5 : decide ((0 : Int) < m.co.length) = true := by
                have : m.co.length ≠ 0 := fun e => by rw [e] at h2; cases h2
                simp; omega
              clear next h2 h3
              simp only [Mod.cells] at hsvb ⊢
              (repeat' (first | refine wk ?_ | refine wk2 ?_ ?_ | with_reducible refine wkF fun _ _ _ => ?_ | with_reducible intro _ | refine Calling.eq (W.go _ (hsvb.go _)) ?_ | exact ag | fail))
              exact fin0
          · exact leK (Sub.refl _)
      · exact leK (Sub.refl _)
end Go.Abs
/- Modules that may be loaded, told by what is in them; what becomes of them with a part more or less. No program. -/
namespace Go.Abs
set_option linter.unusedSimpArgs false
set_option linter.unusedVariables false
open Go.Proofs Go.Nm Go.Wd
set_option linter.unusedVariables false
set_option maxRecDepth 8000
theorem fi_no {α : Type} {p : α → Bool} {l : List α} : decide (0 ≤ fi p l) = false ↔ ∀ x ∈ l, p x = false :=
  ⟨fi_all, fun h => by rw [fi_none (fun j y hy => h y (List.mem_of_getElem? hy))]; rfl⟩
theorem nodup_take {α : Type} (l : List α) : l.Nodup ↔ ∀ (i : Nat) (x : α), l[i]? = some x → x ∉ l.take i := by
  unfold List.Nodup
  rw [List.pairwise_iff_getElem]
  constructor
  · intro h i x hx hm
    obtain ⟨hi, rfl⟩ := List.getElem?_eq_some_iff.1 hx
    obtain ⟨j, hj, he⟩ := List.mem_take_iff_getElem.1 hm
    exact h j i (by omega) hi (by omega) he
  · intro h i j hi hj hij he
    exact h j _ (List.getElem?_eq_getElem hj) (List.mem_take_iff_getElem.2 ⟨i, by omega, he⟩)
theorem dup_iff {l : List ByteArray} {i : Nat} {x : ByteArray} (hx : l[i]? = some x) : dup l i = false ↔ x ∉ l.take i := by
  unfold dup
  rw [hx]
  show decide (0 ≤ fi (fun y => x.toList == y.toList) (l.take i)) = false ↔ _
  rw [fi_no]
  simp only [str_eq, decide_eq_false_iff_not]
  exact ⟨fun h hm => h x hm rfl, fun h y hy e => h (e ▸ hy)⟩
theorem rep_no {l : List ByteArray} : decide (0 ≤ rep l) = false ↔ l.Nodup := by
  unfold rep
  rw [fi_no, nodup_take]
  constructor
  · intro h i x hx
    exact (dup_iff hx).1 (h i (by rw [List.mem_range]; exact (List.getElem?_eq_some_iff.1 hx).1))
  · intro h i hi
    obtain ⟨x, hx⟩ := at_ (List.mem_range.1 hi)
    exact (dup_iff hx).2 (h i x hx)
theorem badP_no {m : Mod} {i : Nat} {r : Rlc} (hr : m.re[i]? = some r) : m.badP i = false ↔ r.spot ∉ (m.re.take i).map Rlc.spot ∧ r.a < m.len r := by
  unfold Mod.badP inB
  rw [hr]
  simp only [Bool.or_eq_false_iff, decide_eq_false_iff_not]
  constructor
  · rintro ⟨h1, h2⟩; exact ⟨h1, by omega⟩
  · rintro ⟨h1, h2⟩; exact ⟨h1, by omega⟩
theorem places_no {m : Mod} : decide (0 ≤ fi m.badP (List.range m.re.length)) = false ↔ (m.re.map Rlc.spot).Nodup ∧ ∀ r ∈ m.re, r.a < m.len r := by
  rw [fi_no, nodup_take]
  constructor
  · intro h
    have h' : ∀ i r, m.re[i]? = some r → r.spot ∉ (m.re.take i).map Rlc.spot ∧ r.a < m.len r := fun i r hr => (badP_no hr).1 (h i (by rw [List.mem_range]; exact (List.getElem?_eq_some_iff.1 hr).1))
    refine ⟨fun i x hx => ?_, fun r hr => ?_⟩
    · rw [List.getElem?_map] at hx
      cases hr : m.re[i]? with
      | none => rw [hr] at hx; cases hx
      | some r => rw [hr] at hx; cases hx; rw [← List.map_take]; exact (h' i r hr).1
    · obtain ⟨i, hi⟩ := List.mem_iff_getElem?.1 hr
      exact (h' i r hi).2
  · rintro ⟨h1, h2⟩ i hi
    obtain ⟨r, hr⟩ := at_ (List.mem_range.1 hi)
    refine (badP_no hr).2 ⟨?_, h2 r (List.mem_of_getElem? hr)⟩
    rw [List.map_take]
    exact h1 i _ (by rw [List.getElem?_map, hr]; rfl)
theorem loose_no {m : Mod} : decide (0 ≤ fi m.loose (List.range m.co.length)) = false ↔ ∀ i w, m.co[i]? = some w → (dec w).o = 17 → (true, i) ∈ m.re.map Rlc.spot := by
  rw [fi_no]
  have key : ∀ i w, m.co[i]? = some w → (m.loose i = false ↔ ((dec w).o = 17 → (true, i) ∈ m.re.map Rlc.spot)) := by
    intro i w hw
    unfold Mod.loose
    rw [hw]
    show ((((dec w).o : Int) == 17) && !(inB (true, i) (m.re.map Rlc.spot))) = false ↔ _
    by_cases h : (dec w).o = 17
    · rw [h]; simp [inB]
    · have : (((dec w).o : Int) == 17) = false := by simp; omega
      rw [this]; simp [h]
  constructor
  · intro h i w hw
    exact (key i w hw).1 (h i (by rw [List.mem_range]; exact (List.getElem?_eq_some_iff.1 hw).1))
  · intro h i hi
    obtain ⟨w, hw⟩ := at_ (List.mem_range.1 hi)
    exact (key i w hw).2 (h i w hw)
/-- What stands in a module that may be loaded. -/
structure Mod.good (m : Mod) : Prop where
  lex : m.ex.length ≤ 8
  lim : m.im.length ≤ 16
  lre : m.re.length ≤ 256
  lco : m.co.length ≤ 512
  lda : m.da.length ≤ 128
  long : ∀ s ∈ m.nm :: (m.ex ++ m.im), longB s = false
  kind : ∀ r ∈ m.re, kindB r = false
  name : ∀ s ∈ m.nm :: (m.ex ++ m.im), badN s = false
  dex : m.ex.Nodup
  dim : m.im.Nodup
  co0 : 0 < m.co.length
  coE : m.ex.length ≤ m.co.length
  word : ∀ w ∈ m.co, badW w = false
  spot : (m.re.map Rlc.spot).Nodup
  plac : ∀ r ∈ m.re, r.a < m.len r
  fits : ∀ r ∈ m.re, m.fit r = true
  thrs : ∀ r ∈ m.re, m.thr r = true
  call : ∀ i w, m.co[i]? = some w → (dec w).o = 17 → (true, i) ∈ m.re.map Rlc.spot
theorem obj_no {m : Mod} : m.obj = 0 ↔ (m.ex.length ≤ 8 ∧ m.im.length ≤ 16 ∧ m.re.length ≤ 256 ∧ m.co.length ≤ 512 ∧ m.da.length ≤ 128) ∧ (∀ s ∈ m.nm :: (m.ex ++ m.im), longB s = false) ∧ ∀ r ∈ m.re, kindB r = false := by
  rw [obj_alt]
  have hbig : m.big = false ↔ (m.ex.length ≤ 8 ∧ m.im.length ≤ 16 ∧ m.re.length ≤ 256 ∧ m.co.length ≤ 512 ∧ m.da.length ≤ 128) := by
    unfold Mod.big; simp; omega
  have hlong : (longB m.nm || (decide (0 ≤ fi longB m.ex) || decide (0 ≤ fi longB m.im))) = false ↔ ∀ s ∈ m.nm :: (m.ex ++ m.im), longB s = false := by
    rw [Bool.or_eq_false_iff, Bool.or_eq_false_iff, fi_no, fi_no]
    simp only [List.forall_mem_cons, List.forall_mem_append]
  rw [← hbig, ← hlong, ← fi_no]
  cases m.big <;> cases (longB m.nm || (decide (0 ≤ fi longB m.ex) || decide (0 ≤ fi longB m.im))) <;> cases decide (0 ≤ fi kindB m.re) <;> simp
theorem nmI_no {m : Mod} : decide (0 ≤ m.nmI) = false ↔ ∀ s ∈ m.nm :: (m.ex ++ m.im), badN s = false := by
  simp only [List.forall_mem_cons, List.forall_mem_append]
  rw [← fi_no, ← fi_no]
  unfold Mod.nmI
  have x1 := fi_lt badN m.ex
  have x2 := fi_lt badN m.im
  generalize fi badN m.ex = a at *
  generalize fi badN m.im = b at *
  cases badN m.nm
  · by_cases h1 : 0 ≤ a
    · have : ¬ (1 + a < 0) := by omega
      simp [h1]; omega
    · by_cases h2 : 0 ≤ b
      · simp [h1, h2]; omega
      · simp [h1, h2]
  · simp
theorem twI_no {m : Mod} (h : m.im.length ≤ 16) : decide (0 ≤ m.twI) = false ↔ m.ex.Nodup ∧ m.im.Nodup := by
  rw [← rep_no, ← rep_no]
  have x4 := fi_lt (dup m.im) (List.range m.im.length)
  rw [List.length_range] at x4
  have w2 : IntKind.i64.wrap (8 + rep m.im) = 8 + rep m.im := by unfold rep; exact wi64 (by omega) (by omega)
  unfold Mod.twI
  rw [w2]
  by_cases h1 : 0 ≤ rep m.ex
  · simp [h1]
  · by_cases h2 : 0 ≤ rep m.im
    · simp [h1, h2]; omega
    · simp [h1, h2]
theorem good_iff {m : Mod} : m.fine ↔ m.good := by
  constructor
  · intro h
    obtain ⟨⟨l1, l2, l3, l4, l5⟩, o2, o3⟩ := obj_no.1 h.obj
    obtain ⟨t1, t2⟩ := (twI_no l2).1 h.tws
    obtain ⟨p1, p2⟩ := places_no.1 h.pls
    have c0 := h.co0
    have cE := h.coE
    exact ⟨l1, l2, l3, l4, l5, o2, o3, nmI_no.1 h.nms, t1, t2, by simp at c0; exact List.length_pos_iff.2 c0, by simp at cE; omega, fi_no.1 h.wds, p1, p2, fun r hr => by simpa using fi_no.1 h.fts r hr, fun r hr => by simpa using fi_no.1 h.ths r hr, loose_no.1 h.lse⟩
  · intro h
    exact ⟨obj_no.2 ⟨⟨h.lex, h.lim, h.lre, h.lco, h.lda⟩, h.long, h.kind⟩, nmI_no.2 h.name, (twI_no h.lim).2 ⟨h.dex, h.dim⟩, by have := h.co0; simp; exact List.length_pos_iff.1 this, by have := h.coE; simp; omega, fi_no.2 h.word, places_no.2 ⟨h.spot, h.plac⟩, fi_no.2 (fun r hr => by simpa using h.fits r hr), fi_no.2 (fun r hr => by simpa using h.thrs r hr), loose_no.2 h.call⟩
/-- What is told first. -/
theorem flt_obj {m : Mod} (h : m.obj ≠ 0) : m.flt.1 = 1 := by
  rw [flt_eq, if_pos (by simpa using h)]
theorem flt_nm {m : Mod} (h : m.obj = 0) {i : Int} (hn : m.nmI = i) (h0 : 0 ≤ i) : m.flt = (2, i) := by
  rw [flt_eq, h, hn, if_neg (by decide), if_pos (by simpa using h0)]
theorem flt_tw {m : Mod} (h : m.obj = 0) (hn : ∀ s ∈ m.nm :: (m.ex ++ m.im), badN s = false) {i : Int} (ht : m.twI = i) (h0 : 0 ≤ i) : m.flt = (3, i) := by
  rw [flt_eq, h, ht, if_neg (by decide), nmI_no.2 hn, if_neg (by decide), if_pos (by simpa using h0)]
theorem flt_good {m : Mod} (h : m.good) : m.flt.1 = 0 := fine_iff.1 (good_iff.2 h)
theorem chk_good {m : Mod} (h : m.good) : m.chk = 0 := fine_chk (good_iff.2 h)
theorem chk_bad20 {m : Mod} (h : m.flt.1 ≠ 0) : m.chk = 20 := by unfold Mod.chk; rw [if_pos (by simpa using h)]
theorem getD_app {l n : List Nat} {i : Nat} (h : i < l.length) : (l ++ n).getD i 0 = l.getD i 0 := by simp [List.getD_eq_getElem?_getD, List.getElem?_append_left h]
theorem fit_congr {m n : Mod} {r : Rlc} (h1 : r.spot.1 = true → n.co.getD r.a 0 = m.co.getD r.a 0) (h2 : r.spot.1 = false → n.da.getD r.a 0 = m.da.getD r.a 0) : n.fit r = m.fit r := by
  unfold Mod.fit
  cases q : r.spot.1 with
  | true => rw [h1 q, if_pos rfl, if_pos rfl]
  | false => rw [h2 q, if_neg (by decide), if_neg (by decide)]
theorem badW0 : badW 0 = false := by kernel_rfl
theorem dec0 : (dec 0).o = 0 := by kernel_rfl
/-- A word of code more, nothing but a halt. -/
theorem good_code {m : Mod} (h : m.good) (hl : m.co.length < 512) : ({ m with co := m.co ++ [0] } : Mod).good where
  lex := h.lex
  lim := h.lim
  lre := h.lre
  lco := by simp; omega
  lda := h.lda
  long := h.long
  kind := h.kind
  name := h.name
  dex := h.dex
  dim := h.dim
  co0 := by simp
  coE := by have := h.coE; simp; omega
  word := fun w hw => by
    rcases List.mem_append.1 hw with hw | hw
    · exact h.word w hw
    · rw [List.mem_singleton.1 hw]; exact badW0
  spot := h.spot
  plac := fun r hr => by
    have := h.plac r hr
    unfold Mod.len at this ⊢
    simp only [List.length_append, List.length_singleton]
    split <;> rename_i q <;> simp only [q, if_true, if_false, Bool.false_eq_true] at this <;> omega
  fits := fun r hr => by
    have h1 := h.plac r hr
    unfold Mod.len at h1
    exact (fit_congr (m := m) (n := { m with co := m.co ++ [0] }) (fun q => by rw [q, if_pos rfl] at h1; exact getD_app h1) (fun _ => rfl)).trans (h.fits r hr)
  thrs := fun r hr => by
    have := h.thrs r hr
    unfold Mod.thr at this ⊢
    simp only [List.length_append, List.length_singleton]
    split <;> rename_i q
    · rw [if_pos q] at this; exact this
    · rw [if_neg q] at this
      split <;> rename_i q2
      · rw [if_pos q2] at this; exact this
      · rw [if_neg q2] at this; simp at this ⊢; omega
  call := fun i w hw ho => by
    by_cases hi : i < m.co.length
    · rw [show (({ m with co := m.co ++ [0] } : Mod).co) = m.co ++ [0] from rfl, List.getElem?_append_left hi] at hw
      exact h.call i w hw ho
    · rw [show (({ m with co := m.co ++ [0] } : Mod).co) = m.co ++ [0] from rfl, List.getElem?_append_right (by omega)] at hw
      have : w = 0 := by
        have := List.mem_of_getElem? hw
        simpa using this
      subst this
      exact absurd ho (by rw [dec0]; decide)
def impK (r : Rlc) : Bool := ((r.k : Int) == 0) || (((r.k : Int) == 1) || ((r.k : Int) == 4))
/-- The last import less. -/
theorem good_less {m : Mod} (h : m.good) {pre : List ByteArray} {x : ByteArray} (him : m.im = pre ++ [x]) (hno : ∀ r ∈ m.re, impK r = true → r.w ≠ pre.length) : ({ m with im := pre } : Mod).good where
  lex := h.lex
  lim := by have := h.lim; rw [him] at this; simp at this ⊢; omega
  lre := h.lre
  lco := h.lco
  lda := h.lda
  long := fun s hs => h.long s (by
    rw [him]; simp only [List.mem_cons, List.mem_append] at hs ⊢; rcases hs with hs | hs | hs
    · exact .inl hs
    · exact .inr (.inl hs)
    · exact .inr (.inr (.inl hs)))
  kind := h.kind
  name := fun s hs => h.name s (by
    rw [him]; simp only [List.mem_cons, List.mem_append] at hs ⊢; rcases hs with hs | hs | hs
    · exact .inl hs
    · exact .inr (.inl hs)
    · exact .inr (.inr (.inl hs)))
  dex := h.dex
  dim := by have := h.dim; rw [him] at this; exact (List.nodup_append.1 this).1
  co0 := h.co0
  coE := h.coE
  word := h.word
  spot := h.spot
  plac := h.plac
  fits := h.fits
  thrs := fun r hr => by
    have h1 := h.thrs r hr
    have h2 := hno r hr
    unfold Mod.thr at h1 ⊢
    unfold impK at h2
    simp only []
    rw [him] at h1
    split <;> rename_i q
    · rw [if_pos q] at h1
      have := h2 q
      simp at h1 ⊢; omega
    · rw [if_neg q] at h1; exact h1
  call := h.call
/-- An import more. -/
theorem good_more {m : Mod} (h : m.good) {x : ByteArray} (hl : m.im.length < 16) (h1 : longB x = false) (h2 : badN x = false) (h3 : x ∉ m.im) : ({ m with im := m.im ++ [x] } : Mod).good where
  lex := h.lex
  lim := by simp; omega
  lre := h.lre
  lco := h.lco
  lda := h.lda
  long := fun s hs => by
    simp only [List.mem_cons, List.mem_append, List.not_mem_nil, or_false] at hs
    rcases hs with hs | hs | hs | hs
    · exact h.long s (by simp [hs])
    · exact h.long s (by simp [hs])
    · exact h.long s (by simp [hs])
    · rw [hs]; exact h1
  kind := h.kind
  name := fun s hs => by
    simp only [List.mem_cons, List.mem_append, List.not_mem_nil, or_false] at hs
    rcases hs with hs | hs | hs | hs
    · exact h.name s (by simp [hs])
    · exact h.name s (by simp [hs])
    · exact h.name s (by simp [hs])
    · rw [hs]; exact h2
  dex := h.dex
  dim := by
    refine List.nodup_append.2 ⟨h.dim, by simp, fun a ha b hb => ?_⟩
    rw [List.mem_singleton.1 hb]
    exact fun e => h3 (e ▸ ha)
  co0 := h.co0
  coE := h.coE
  word := h.word
  spot := h.spot
  plac := h.plac
  fits := h.fits
  thrs := fun r hr => by
    have h1 := h.thrs r hr
    unfold Mod.thr at h1 ⊢
    simp only [List.length_append, List.length_singleton]
    split <;> rename_i q
    · rw [if_pos q] at h1
      simp at h1 ⊢; omega
    · rw [if_neg q] at h1; exact h1
  call := h.call
/-- A word of data more. -/
theorem good_data {m : Mod} (h : m.good) (hl : m.da.length < 128) : ({ m with da := m.da ++ [7] } : Mod).good where
  lex := h.lex
  lim := h.lim
  lre := h.lre
  lco := h.lco
  lda := by simp; omega
  long := h.long
  kind := h.kind
  name := h.name
  dex := h.dex
  dim := h.dim
  co0 := h.co0
  coE := h.coE
  word := h.word
  spot := h.spot
  plac := fun r hr => by
    have := h.plac r hr
    unfold Mod.len at this ⊢
    simp only [List.length_append, List.length_singleton]
    split <;> rename_i q <;> simp only [q, if_true, if_false, Bool.false_eq_true] at this <;> omega
  fits := fun r hr => by
    have h1 := h.plac r hr
    unfold Mod.len at h1
    exact (fit_congr (m := m) (n := { m with da := m.da ++ [7] }) (fun _ => rfl) (fun q => by rw [q, if_neg (by decide)] at h1; exact getD_app h1)).trans (h.fits r hr)
  thrs := fun r hr => by
    have := h.thrs r hr
    unfold Mod.thr at this ⊢
    simp only [List.length_append, List.length_singleton]
    split <;> rename_i q
    · rw [if_pos q] at this; exact this
    · rw [if_neg q] at this
      split <;> rename_i q2
      · rw [if_pos q2] at this; simp at this ⊢; omega
      · rw [if_neg q2] at this; exact this
  call := h.call
theorem data_chk {m : Mod} (h : m.good) : (({ m with da := m.da ++ [7] } : Mod).chk == 0) = decide ((m.da.length : Int) < 128) := by
  by_cases hl : m.da.length < 128
  · rw [chk_good (good_data h hl), decide_eq_true (by omega)]; rfl
  · rw [chk_bad20 (by
      rw [flt_obj fun e => ?_]; decide
      have := (obj_no.1 e).1.2.2.2.2
      simp at this; omega), decide_eq_false (by omega)]; rfl
section more
variable {m : Mod} (h : m.good) {x : ByteArray}
theorem more_big (hx : ((m.im.length : Int) == 16) = true ∨ longB x = true) : ({ m with im := m.im ++ [x] } : Mod).flt.1 = 1 := by
  refine flt_obj fun e => ?_
  obtain ⟨⟨_, l, _⟩, l2, _⟩ := obj_no.1 e
  rcases hx with hx | hx
  · simp at l hx; omega
  · rw [l2 x (by simp)] at hx; cases hx
include h
theorem more_obj (hl : ((m.im.length : Int) == 16) = false) (h1 : longB x = false) : ({ m with im := m.im ++ [x] } : Mod).obj = 0 := by
  refine obj_no.2 ⟨⟨h.lex, ?_, h.lre, h.lco, h.lda⟩, fun s hs => ?_, h.kind⟩
  · have := h.lim; simp at hl ⊢; omega
  · simp only [List.mem_cons, List.mem_append, List.not_mem_nil, or_false] at hs
    rcases hs with hs | hs | hs | hs
    · exact h.long s (by simp [hs])
    · exact h.long s (by simp [hs])
    · exact h.long s (by simp [hs])
    · rw [hs]; exact h1
theorem more_name (hl : ((m.im.length : Int) == 16) = false) (h1 : longB x = false) (h2 : badN x = true) : ({ m with im := m.im ++ [x] } : Mod).flt = (2, 9 + (m.im.length : Int)) := by
  refine flt_nm (more_obj h hl h1) ?_ (by omega)
  unfold Mod.nmI
  have e1 : badN m.nm = false := h.name _ (by simp)
  have e2 : decide (0 ≤ fi badN m.ex) = false := fi_no.2 fun s hs => h.name s (by simp [hs])
  have e3 : fi badN (m.im ++ [x]) = m.im.length := fi_some (i := m.im.length) (x := x) (by simp) h2 fun j y hj hy => by
    rw [List.getElem?_append_left hj] at hy
    exact h.name y (by simp [List.mem_of_getElem? hy])
  simp only [e1, e2, e3, Bool.false_eq_true, if_false]
  rw [if_pos (by simp)]
theorem more_twice (hl : ((m.im.length : Int) == 16) = false) (h1 : longB x = false) (h2 : x ∈ m.im) : ({ m with im := m.im ++ [x] } : Mod).flt = (3, 8 + (m.im.length : Int)) := by
  refine flt_tw (more_obj h hl h1) (fun s hs => ?_) ?_ (by omega)
  · simp only [List.mem_cons, List.mem_append, List.not_mem_nil, or_false] at hs
    rcases hs with hs | hs | hs | hs
    · exact h.name s (by simp [hs])
    · exact h.name s (by simp [hs])
    · exact h.name s (by simp [hs])
    · exact h.name s (by simp [hs, h2])
  · unfold Mod.twI
    have e1 : decide (0 ≤ rep m.ex) = false := rep_no.2 h.dex
    have e3 : rep (m.im ++ [x]) = m.im.length := rep_some (by simp) (by
      cases q : dup (m.im ++ [x]) m.im.length with
      | true => rfl
      | false => exact absurd (by simpa using h2) ((dup_iff (x := x) (by simp)).1 q)) fun j y hj hy => by
        rw [List.getElem?_range (by simp; omega)] at hy
        cases hy
        have : m.im[j]? = some (m.im[j]'hj) := List.getElem?_eq_getElem hj
        refine (dup_iff (x := m.im[j]'hj) (by rw [List.getElem?_append_left hj, this])).2 ?_
        rw [List.take_append_of_le_length (by omega)]
        exact (nodup_take m.im).1 h.dim j _ this
    have hlim := h.lim
    simp only [e1, e3, Bool.false_eq_true, if_false]
    rw [if_pos (by simp), wi64 (by omega) (by omega)]
end more
/-- Whatever is named twice. -/
theorem twice_ex {m : Mod} (h : m.good) {x : ByteArray} (hx : x ∈ m.ex) : ({ m with ex := m.ex ++ [x] } : Mod).flt.1 = 1 ∨ ({ m with ex := m.ex ++ [x] } : Mod).flt.1 = 3 := by
  by_cases ho : ({ m with ex := m.ex ++ [x] } : Mod).obj = 0
  · right
    have ht : ¬ (decide (0 ≤ ({ m with ex := m.ex ++ [x] } : Mod).twI) = false) := fun e => by
      have := ((twI_no (m := { m with ex := m.ex ++ [x] }) h.lim).1 e).1
      exact (List.nodup_append.1 this).2.2 x hx x (by simp) rfl
    have := flt_tw ho (fun s hs => by
      simp only [List.mem_cons, List.mem_append, List.not_mem_nil, or_false] at hs
      rcases hs with hs | (hs | hs) | hs
      · exact h.name s (by simp [hs])
      · exact h.name s (by simp [hs])
      · exact h.name s (by simp [hs, hx])
      · exact h.name s (by simp [hs])) rfl (by simpa using ht)
    rw [this]
  · exact .inl (flt_obj ho)
theorem twice_im {m : Mod} (h : m.good) {x : ByteArray} (hx : x ∈ m.im) : ({ m with im := m.im ++ [x] } : Mod).flt.1 = 1 ∨ ({ m with im := m.im ++ [x] } : Mod).flt.1 = 3 := by
  cases hl : ((m.im.length : Int) == 16) with
  | true => exact .inl (more_big (.inl hl))
  | false => rw [more_twice h hl (h.long x (by simp [hx])) hx]; exact .inr rfl
theorem twice_re {m : Mod} (h : m.good) {r : Rlc} (hr : r ∈ m.re) : ({ m with re := m.re ++ [r] } : Mod).flt.1 = 1 ∨ ({ m with re := m.re ++ [r] } : Mod).flt.1 = 6 := by
  by_cases ho : ({ m with re := m.re ++ [r] } : Mod).obj = 0
  · right
    have hp : ¬ (decide (0 ≤ fi ({ m with re := m.re ++ [r] } : Mod).badP (List.range (m.re ++ [r]).length)) = false) := fun e => by
      have := (places_no (m := { m with re := m.re ++ [r] }).1 e).1
      rw [show (({ m with re := m.re ++ [r] } : Mod).re) = m.re ++ [r] from rfl, List.map_append] at this
      exact (List.nodup_append.1 this).2.2 r.spot (List.mem_map_of_mem hr) r.spot (by simp) rfl
    have f := good_iff.2 h
    rw [flt_eq, ho, if_neg (by decide), (nmI_no (m := { m with re := m.re ++ [r] })).2 h.name, if_neg (by decide), (twI_no (m := { m with re := m.re ++ [r] }) h.lim).2 ⟨h.dex, h.dim⟩, if_neg (by decide)]
    simp only [f.co0, f.coE, Bool.or_false, Bool.false_eq_true, if_false]
    rw [show decide (0 ≤ fi badW m.co) = false from f.wds, if_neg (by decide), if_pos (by simpa using hp)]
  · exact .inl (flt_obj ho)
end Go.Abs
/- The laws of modules that may be loaded, with a part more or less. -/
namespace Go.Abs
set_option linter.unusedSimpArgs false
set_option linter.unusedVariables false
set_option maxHeartbeats 4000000
open Go.Proofs Go.Nm Go.Wd
set_option linter.unusedVariables false
set_option maxRecDepth 8000
variable {H : Heap}
section
variable {G K : Heap} (g : GH G) (hs : Sub G K) {n : Mod} (hn : n.ok) {t : TV} (hc : Conv K G t n.tv)
include g hs hn hc
theorem modV : AC Tryd.prog 12 [t] K (fun r H' => r = .tup [.s (.int .u8 n.flt.1), .s (.int .i64 n.flt.2)] ∧ H' = K) :=
  AC.frame (module_c g (Sub.refl _) n hn) rfl (flatG g) hs (.cons hc .nil)
theorem chkV : AC Tryd.prog 14 [t] K (fun r H' => r = .s (.int .i64 n.chk) ∧ H' = K) :=
  AC.frame (vCheck_c g (Sub.refl _) n hn) rfl (flatG g) hs (.cons hc .nil)
end
section
variable {d : Option Tmp} {ty : TypeId} {pos : String} {aft : Array Edge} {g : Option (Nat × Bool)} {s x : Operand} {G K : Heap} {m : Mod} {b1 b2 b3 b4 b5 c : Nat} {post : List Row}
theorem app_ex {w : ByteArray} (hO : Owns G K (m.rows b1 b2 b3 b4 b5 ++ post)) (hc : K c = some (.cells [.s (.string w)])) (hl : m.ex.length ≤ 2000) :
    OC Tryd.prog ⟨d, .call { callee := .builtin .append, args := #[s, x], argTypes := #[22, 22] }, ty, pos, aft, g⟩ [ownT b1 1 (m.ex.map s1), .rs c 0 1 1] K
      (fun r K' => ∃ b', r = ownT b' 1 ((m.ex ++ [w]).map s1) ∧ Owns G K' (({ m with ex := m.ex ++ [w] } : Mod).rows b' b2 b3 b4 b5 ++ post)) := by
  refine OC.mono (oc_append_row (pre := []) (post := [(b2, 1, m.im.map s1), (b3, 1, m.co.map u1), (b4, 1, m.da.map u1), (b5, 3, m.re.map relE)] ++ post) (N := [s1 w]) hO ap22 us22 (each_s1 _) (each_s1 [w]) (srcT_rs hc rfl) rfl (by simp; omega) (by simp; omega)) fun r K' h => ?_
  obtain ⟨b', h1, h2, _⟩ := h
  rw [List.map_append]
  exact ⟨b', h1, by rw [Mod.rows_def, List.map_append]; exact h2⟩
theorem app_im {w : ByteArray} (hO : Owns G K (m.rows b1 b2 b3 b4 b5 ++ post)) (hc : K c = some (.cells [.s (.string w)])) (hl : m.im.length ≤ 2000) :
    OC Tryd.prog ⟨d, .call { callee := .builtin .append, args := #[s, x], argTypes := #[22, 22] }, ty, pos, aft, g⟩ [ownT b2 1 (m.im.map s1), .rs c 0 1 1] K
      (fun r K' => ∃ b', r = ownT b' 1 ((m.im ++ [w]).map s1) ∧ Owns G K' (({ m with im := m.im ++ [w] } : Mod).rows b1 b' b3 b4 b5 ++ post)) := by
  refine OC.mono (oc_append_row (pre := [(b1, 1, m.ex.map s1)]) (post := [(b3, 1, m.co.map u1), (b4, 1, m.da.map u1), (b5, 3, m.re.map relE)] ++ post) (N := [s1 w]) hO ap22 us22 (each_s1 _) (each_s1 [w]) (srcT_rs hc rfl) rfl (by simp; omega) (by simp; omega)) fun r K' h => ?_
  obtain ⟨b', h1, h2, _⟩ := h
  rw [List.map_append]
  exact ⟨b', h1, by rw [Mod.rows_def, List.map_append]; exact h2⟩
theorem app_co {w : Nat} (hO : Owns G K (m.rows b1 b2 b3 b4 b5 ++ post)) (hc : K c = some (.cells [.s (.int .u32 w)])) (hl : m.co.length ≤ 2000) :
    OC Tryd.prog ⟨d, .call { callee := .builtin .append, args := #[s, x], argTypes := #[23, 23] }, ty, pos, aft, g⟩ [ownT b3 1 (m.co.map u1), .rs c 0 1 1] K
      (fun r K' => ∃ b', r = ownT b' 1 ((m.co ++ [w]).map u1) ∧ Owns G K' (({ m with co := m.co ++ [w] } : Mod).rows b1 b2 b' b4 b5 ++ post)) := by
  refine OC.mono (oc_append_row (pre := [(b1, 1, m.ex.map s1), (b2, 1, m.im.map s1)]) (post := [(b4, 1, m.da.map u1), (b5, 3, m.re.map relE)] ++ post) (N := [u1 w]) hO ap23 us23 (each_u1 _) (each_u1 [w]) (srcT_rs hc rfl) rfl (by simp; omega) (by simp; omega)) fun r K' h => ?_
  obtain ⟨b', h1, h2, _⟩ := h
  rw [List.map_append]
  exact ⟨b', h1, by rw [Mod.rows_def, List.map_append]; exact h2⟩
theorem app_da {w : Nat} (hO : Owns G K (m.rows b1 b2 b3 b4 b5 ++ post)) (hc : K c = some (.cells [.s (.int .u32 w)])) (hl : m.da.length ≤ 2000) :
    OC Tryd.prog ⟨d, .call { callee := .builtin .append, args := #[s, x], argTypes := #[23, 23] }, ty, pos, aft, g⟩ [ownT b4 1 (m.da.map u1), .rs c 0 1 1] K
      (fun r K' => ∃ b', r = ownT b' 1 ((m.da ++ [w]).map u1) ∧ Owns G K' (({ m with da := m.da ++ [w] } : Mod).rows b1 b2 b3 b' b5 ++ post)) := by
  refine OC.mono (oc_append_row (pre := [(b1, 1, m.ex.map s1), (b2, 1, m.im.map s1), (b3, 1, m.co.map u1)]) (post := [(b5, 3, m.re.map relE)] ++ post) (N := [u1 w]) hO ap23 us23 (each_u1 _) (each_u1 [w]) (srcT_rs hc rfl) rfl (by simp; omega) (by simp; omega)) fun r K' h => ?_
  obtain ⟨b', h1, h2, _⟩ := h
  rw [List.map_append]
  exact ⟨b', h1, by rw [Mod.rows_def, List.map_append]; exact h2⟩
theorem app_re {w : Rlc} (hO : Owns G K (m.rows b1 b2 b3 b4 b5 ++ post)) (hc : K c = some (.cells (relE w))) (hl : m.re.length ≤ 2000) :
    OC Tryd.prog ⟨d, .call { callee := .builtin .append, args := #[s, x], argTypes := #[24, 24] }, ty, pos, aft, g⟩ [ownT b5 3 (m.re.map relE), .rs c 0 1 3] K
      (fun r K' => ∃ b', r = ownT b' 3 ((m.re ++ [w]).map relE) ∧ Owns G K' (({ m with re := m.re ++ [w] } : Mod).rows b1 b2 b3 b4 b' ++ post)) := by
  refine OC.mono (oc_append_row (pre := [(b1, 1, m.ex.map s1), (b2, 1, m.im.map s1), (b3, 1, m.co.map u1), (b4, 1, m.da.map u1)]) (post := post) (N := [relE w]) hO ap24 us24 (each_relE _) (each_relE [w]) (srcT_rs (by simpa using hc) rfl) rfl (by simp; omega) (by simp; omega)) fun r K' h => ?_
  obtain ⟨b', h1, h2, _⟩ := h
  rw [List.map_append]
  exact ⟨b', h1, by rw [Mod.rows_def, List.map_append]; exact h2⟩
end
def Mod.oc (m : Mod) (b1 b2 b3 b4 b5 : Nat) : List TV := [.s (.string m.nm), ownT b1 1 (m.ex.map s1), ownT b2 1 (m.im.map s1), ownT b3 1 (m.co.map u1), ownT b4 1 (m.da.map u1), ownT b5 3 (m.re.map relE)]
theorem good_little {m : Mod} (h : m.good) : m.little := ⟨by have := h.lex; omega, by have := h.lim; omega, by have := h.lco; omega, by have := h.lda; omega, by have := h.lre; omega⟩
theorem num_code {m : Mod} (h : m.num) {w : Nat} (hw : w < 2 ^ 32) : ({ m with co := m.co ++ [w] } : Mod).num := ⟨fun x hx => by rcases List.mem_append.1 hx with hx | hx; exact h.co x hx; rw [List.mem_singleton.1 hx]; exact hw, h.da, h.re⟩
theorem num_data {m : Mod} (h : m.num) {w : Nat} (hw : w < 2 ^ 32) : ({ m with da := m.da ++ [w] } : Mod).num := ⟨h.co, fun x hx => by rcases List.mem_append.1 hx with hx | hx; exact h.da x hx; rw [List.mem_singleton.1 hx]; exact hw, h.re⟩
theorem k014 (r : Rlc) : (impK r = true ∧ (((r.k : Int) == 0) = true ∨ (((r.k : Int) == 0) = false ∧ ((r.k : Int) == 1) = true) ∨ (((r.k : Int) == 0) = false ∧ ((r.k : Int) == 1) = false ∧ ((r.k : Int) == 4) = true))) ∨ (impK r = false ∧ ((r.k : Int) == 0) = false ∧ ((r.k : Int) == 1) = false ∧ ((r.k : Int) == 4) = false) := by
  unfold impK
  cases ((r.k : Int) == 0) <;> cases ((r.k : Int) == 1) <;> cases ((r.k : Int) == 4) <;> simp
theorem conv_less {G K : Heap} {m : Mod} {b1 b2 b3 b4 b5 : Nat} (O : Owns G K (m.rows b1 b2 b3 b4 b5)) {pre : List ByteArray} {x : ByteArray} (him : m.im = pre ++ [x]) :
    Conv K G (.agg [.s (.string m.nm), ownT b1 1 (m.ex.map s1), .rs b2 0 (pre.length - 0) 1, ownT b3 1 (m.co.map u1), ownT b4 1 (m.da.map u1), ownT b5 3 (m.re.map relE)]) ({ m with im := pre } : Mod).tv := by
  have hf := O.free
  have hh := O.held
  simp only [Mod.rows_def, List.forall_mem_cons, List.not_mem_nil, false_implies, implies_true, and_true] at hf hh
  obtain ⟨f1, f2, f3, f4, f5⟩ := hf
  obtain ⟨h1, h2, h3, h4, h5⟩ := hh
  replace h2 := h2.resolve_left (by rw [him]; simp)
  rw [him, List.map_append] at h2
  have c2 := conv_pre O.sub h2 f2 (each_s1 pre)
  rw [List.length_map] at c2
  rw [Mod.tv_def, Nat.sub_zero]
  exact Conv.agg (.cons (Conv.refl O.sub _) (.cons (conv_own O.sub h1 f1 (each_s1 _)) (.cons c2 (.cons (conv_own O.sub h3 f3 (each_u1 _)) (.cons (conv_own O.sub h4 f4 (each_u1 _)) (.cons (conv_own O.sub h5 f5 (each_relE _)) .nil))))))
theorem validLess_c {G : Heap} (g : GH G) (hs : Sub G H) (m : Mod) (hm : m.num) : AC Tryd.prog 5 [m.tv] H (fun r H' => r = .s (.bool true) ∧ H' = H) := by
  refine AC.body Tryd.func5 rfl rfl (n := 85) (res := [.tmp 2]) rfl rfl (by simp) ?_
  simp only [ent]
  have S1 := fun H => rsize_c m H
  have W := later fun (K : Heap) (hs : Sub G K) => awake_c g hs
  have M1 := later fun (hm : m.ok) (K : Heap) (hs : Sub G K) => vCheck_c g hs m hm
  have hlt := later fun (h : decide ((2000 : Int) < m.size) = false) => little_of h
  have hfi := later fun (h : (m.chk != 0) = false) => good_iff.1 (chk_fine h)
  have hnum := later hm
  have C := later fun (hl : m.little) H => copy_c m hl H
  clear hm
  simp only [Mod.tv_def, Mod.own_def] at S1 M1 C ⊢
  generalize m.size = sz at *
  generalize m.chk = c1 at *
  (repeat' (first | refine wk ?_ | refine wk2 ?_ ?_ | with_reducible refine wkF fun _ _ _ => ?_ | with_reducible intro _ | exact ag | fail))
  rename_i v hv hvn
  have hsv := later fun r => Sub.upd (r := r) hs (hs.none hv)
  cases q1 : decide ((2000 : Int) < sz) with
  | true =>
    (repeat' (first | refine wk ?_ | refine wk2 ?_ ?_ | with_reducible refine wkF fun _ _ _ => ?_ | with_reducible intro _ | refine Calling.eq (S1 _) ?_ | refine Calling.eq (W.go _ (hsv.go _)) ?_ | exact ag | fail))
    exact fin0
  | false =>
    have hli := later (hlt.go q1)
    have hko := later (ok_of hnum.go hli.go)
    replace M1 := later (M1.go hko.go)
    cases q2 : (c1 != 0) with
    | true =>
      (repeat' (first | refine wk ?_ | refine wk2 ?_ ?_ | with_reducible refine wkF fun _ _ _ => ?_ | with_reducible intro _ | refine Calling.eq (S1 _) ?_ | refine Calling.eq (M1.go _ (hsv.go _)) ?_ | refine Calling.eq (W.go _ (hsv.go _)) ?_ | exact ag | fail))
      exact fin0
    | false =>
      have hf := later (hfi.go q2)
      (repeat' (first | refine wk ?_ | refine wk2 ?_ ?_ | with_reducible refine wkF fun _ _ _ => ?_ | with_reducible intro _ | refine Calling.eq (S1 _) ?_ | refine Calling.eq (M1.go _ (hsv.go _)) ?_ | exact ag | fail))
      clear S1 M1 q1 q2 hlt hfi
      refine Calling.by (C.go hli.go _) ?_
      rintro r K ⟨b1, b2, b3, b4, b5, rfl, O⟩
      replace O := later O
      have hKv := O.go.sub v _ (upd_self _ _ _)
      (repeat' first | refine wk ?_ | with_reducible refine wkF fun _ _ _ => ?_)
      rename_i t ht htn
      refine ARun.mid ⟨[(1, .s (.pointer (some ⟨v, 0, none⟩)))], upd H v (.cells m.cells)⟩ ?_ fun k hk => ?_
      · clear ht htn hKv O
        simp only [Mod.cells]
        (repeat' first | refine wk ?_ | with_reducible refine wkF fun _ _ _ => ?_)
        refine ARun.rounds (fun i : Nat => ⟨[(1, .s (.pointer (some ⟨v, 0, none⟩))), (4, .s (.int .i64 m.im.length)), (5, .s (.int .i64 i))], upd H v (.cells m.cells)⟩) (fun i => m.re.length - i) (fun i => i ≤ m.re.length ∧ ∀ j r, j < i → m.re[j]? = some r → impK r = true → IntKind.i64.wrap ((m.im.length : Int) - 1) ≠ r.w) ?_ 0 ⟨by omega, fun j r hj => by omega⟩ ?_
        · rintro i ⟨hi, hno⟩ next
          replace hno := later hno
          have lre := later hko.go.lre
          by_cases hlt : i < m.re.length
          · have h1 : (i : Int) < m.re.length := by omega
            have h2 : (0 : Int) ≤ i := by omega
            obtain ⟨x, hx⟩ := at_ hlt
            have hx1 := vget relE hx
            rw [relE_def] at hx1
            have hw := w64s (i := i) (by have := lre.go; omega)
            have e16 := u16_i64 ((hko.go.re x (List.mem_of_getElem? hx)).2.2)
            have nx := later fun (h : impK x = true → IntKind.i64.wrap ((m.im.length : Int) - 1) ≠ x.w) => next.go (i + 1) ⟨by omega, fun j r hj hr => by
              by_cases e : j = i
              · subst e; rw [hx] at hr; cases hr; exact h
              · exact hno.go j r (by omega) hr⟩ (by omega)
            simp only [Mod.cells] at nx ⊢
            have hkk := k014 x
            clear next hx
            generalize hz : IntKind.i64.wrap ((m.im.length : Int) - 1) = z at *
            rcases hkk with ⟨hI, hkk⟩ | ⟨hI, hkk⟩
            · cases qz : ((x.w : Int) == z) with
              | true =>
                clear nx
                rcases hkk with h | ⟨h, h'⟩ | ⟨h, h', h''⟩
                all_goals
                  (repeat' (first | refine wk ?_ | refine wk2 ?_ ?_ | with_reducible refine wkF fun _ _ _ => ?_ | with_reducible intro _ | refine Calling.eq (W.go _ (Sub.upd (hsv.go _) ((hsv.go _).none (by assumption)))) ?_ | exact ag | fail))
                  exact fin0
              | false =>
                replace nx := later (nx.go fun _ e => by rw [e] at qz; simp at qz)
                rcases hkk with h | ⟨h, h'⟩ | ⟨h, h', h''⟩
                all_goals
                  (repeat' (first | refine wk ?_ | refine wk2 ?_ ?_ | with_reducible refine wkF fun _ _ _ => ?_ | with_reducible intro _ | exact ag | fail))
                  exact ARun.weaken nx.go (leK (by exact sb))
            · replace nx := later (nx.go fun e => by rw [hI] at e; cases e)
              obtain ⟨h, h', h''⟩ := hkk
              (repeat' (first | refine wk ?_ | refine wk2 ?_ ?_ | with_reducible refine wkF fun _ _ _ => ?_ | with_reducible intro _ | exact ag | fail))
              exact ARun.weaken nx.go (leK (by exact sb))
          · have h1 : decide ((i : Int) < m.re.length) = false := by simp; omega
            obtain rfl : i = m.re.length := by omega
            clear next
            simp only [Mod.cells]
            rcases List.eq_nil_or_concat m.im with him | ⟨pre, x, him⟩
            · have h2 : (((m.im.length : Nat) : Int) == 0) = true := by rw [him]; rfl
              (repeat' (first | refine wk ?_ | refine wk2 ?_ ?_ | with_reducible refine wkF fun _ _ _ => ?_ | with_reducible intro _ | refine Calling.eq (W.go _ (hsv.go _)) ?_ | exact ag | fail))
              exact fin0
            · rw [List.concat_eq_append] at him
              have hlen : m.im.length = pre.length + 1 := by rw [him]; simp
              have h2 : (((m.im.length : Nat) : Int) == 0) = false := by rw [hlen]; simp; omega
              have lim := hko.go.lim
              have hwz : IntKind.i64.wrap ((m.im.length : Int) - 1) = (pre.length : Int) := by rw [hlen, wi64 (by omega) (by omega)]; omega
              rw [hwz] at hno
              have hg := good_less hf.go him fun r hr hI e => by
                obtain ⟨j, hj⟩ := List.mem_iff_getElem?.1 hr
                exact hno.go j r (List.getElem?_eq_some_iff.1 hj).1 hj hI (by omega)
              have hne : m.im.map s1 ≠ [] := by rw [him]; simp
              have h3 : (pre.length : Int) ≤ m.im.length := by omega
              have h4 : (0 : Int) ≤ pre.length := by omega
              replace him := later him
              clear hlen
              (repeat' (first | refine wk ?_ | refine wk2 ?_ ?_ | with_reducible refine wkF fun _ _ _ => ?_ | with_reducible intro _ | exact ag | fail))
              refine Calling.by (C.go hli.go _) ?_
              rintro r K ⟨b1, b2, b3, b4, b5, rfl, O⟩
              replace O := later O
              have hKv := O.go.sub v _ (upd_self _ _ _)
              have hown : ownT b2 1 (m.im.map s1) = .rs b2 0 m.im.length 1 := by rw [ownT_ne hne, List.length_map]
              (repeat' (first | refine wk ?_ | refine wk2 ?_ ?_ | with_reducible refine wkF fun _ _ _ => ?_ | with_reducible intro _ | exact ag | fail))
              rename_i t ht htn
              have Ot := fun c => (O.go.less (hsv.go _)).fresh (c := c) ht
              have CV := chkV g (Ot _).sub (ok_of (m := { m with im := pre }) ⟨hnum.go.co, hnum.go.da, hnum.go.re⟩ (good_little hg)) (conv_less (Ot (.cells [.s (.string m.nm), ownT b1 1 (m.ex.map s1), .rs b2 0 (pre.length - 0) 1, ownT b3 1 (m.co.map u1), ownT b4 1 (m.da.map u1), ownT b5 3 (m.re.map relE)])) him.go)
              rw [chk_good hg] at CV
              have hss : Sub H K := Sub.trans (Sub.upd (Sub.refl _) hv) O.go.sub
              replace Ot := later Ot
              (repeat' (first | refine wk ?_ | refine wk2 ?_ ?_ | with_reducible refine wkF fun _ _ _ => ?_ | with_reducible intro _ | refine Calling.eq (CV) ?_ | refine Calling.eq (W.go _ (Ot.go _).sub) ?_ | exact ag | fail))
              exact fin0
        · exact leK (Sub.refl _)
      · have O1 : Owns (upd H v (.cells m.cells)) (upd K t (.cells (m.oc b1 b2 b3 b4 b5))) (m.rows b1 b2 b3 b4 b5 ++ [(t, 0, [m.oc b1 b2 b3 b4 b5])]) := O.go.cell ht
        cases q3 : decide ((m.co.length : Int) < 512) with
        | false =>
          (repeat' (first | refine wk ?_ | refine wk2 ?_ ?_ | with_reducible refine wkF fun _ _ _ => ?_ | with_reducible intro _ | exact ag | fail))
          exact ARun.weaken hk.go (leK (O1.sub))
        | true =>
          replace O1 := later O1
          (repeat' (first | refine wk ?_ | refine wk2 ?_ ?_ | with_reducible refine wkF fun _ _ _ => ?_ | with_reducible intro _ | refine Doing.fresh (oc_build1 ap23 (fun _ h => by cases h; rfl) rfl rfl (by decide) (by decide)) fun _ _ _ => ?_ | exact ag | fail))
          rename_i c hcc hcn
          refine Doing.by (app_co (w := 0) (m := m) (O1.go.fresh hcc) (upd_self _ _ _) hli.go.co) ?_
          rintro r K' ⟨b', rfl, O2⟩
          have e1 := O2.at
          have e2 := O2.sub v _ (upd_self _ _ _)
          have O3 := O2.put (ds := ({ m with co := m.co ++ [0] } : Mod).oc b1 b2 b' b4 b5)
          have hl5 : m.co.length < 512 := by have := of_decide_eq_true q3; omega
          have hg5 := good_code hf.go hl5
          have CH := chkO_c g (ok_of (num_code hnum.go (by decide)) (good_little hg5)) (O3.left.less (hsv.go _))
          rw [chk_good hg5] at CH
          have hs3 := later O3.sub
          clear O1 O2 O3 hcc hcn ht htn hKv q3 hl5 hg5
          simp only [Mod.own_def, Mod.oc, Mod.cells] at CH e1 e2
          (repeat' (first | refine wk ?_ | refine wk2 ?_ ?_ | with_reducible refine wkF fun _ _ _ => ?_ | with_reducible intro _ | refine Calling.eq (CH) ?_ | exact ag | fail))
          exact ARun.weaken hk.go (leK hs3.go)
end Go.Abs
/- The laws of modules that may be loaded, with parts more. -/
namespace Go.Abs
set_option linter.unusedSimpArgs false
set_option linter.unusedVariables false
set_option maxHeartbeats 4000000
open Go.Proofs Go.Nm Go.Wd
set_option linter.unusedVariables false
set_option maxRecDepth 8000
variable {H : Heap}
theorem ok_num {m : Mod} (h : m.num) (h1 : m.ex.length ≤ 3000) (h2 : m.im.length ≤ 3000) (h3 : m.co.length ≤ 3000) (h4 : m.da.length ≤ 3000) (h5 : m.re.length ≤ 3000) : m.ok :=
  ⟨h.co, h.da, h.re, by omega, by omega, by omega, by omega, by omega⟩
theorem ok_im {m : Mod} (h : m.num) (l : m.little) (x : ByteArray) : ({ m with im := m.im ++ [x] } : Mod).ok :=
  ok_num ⟨h.co, h.da, h.re⟩ (by have := l.ex; simp; omega) (by have := l.im; simp; omega) (by have := l.co; simp; omega) (by have := l.da; simp; omega) (by have := l.re; simp; omega)
theorem ok_ex {m : Mod} (h : m.num) (l : m.little) (x : ByteArray) : ({ m with ex := m.ex ++ [x] } : Mod).ok :=
  ok_num ⟨h.co, h.da, h.re⟩ (by have := l.ex; simp; omega) (by have := l.im; simp; omega) (by have := l.co; simp; omega) (by have := l.da; simp; omega) (by have := l.re; simp; omega)
theorem ok_da {m : Mod} (h : m.num) (l : m.little) : ({ m with da := m.da ++ [7] } : Mod).ok :=
  ok_num (num_data h (by decide)) (by have := l.ex; simp; omega) (by have := l.im; simp; omega) (by have := l.co; simp; omega) (by have := l.da; simp; omega) (by have := l.re; simp; omega)
theorem ok_re {m : Mod} (h : m.num) (l : m.little) {r : Rlc} (hr : r ∈ m.re) : ({ m with re := m.re ++ [r] } : Mod).ok :=
  ok_num ⟨h.co, h.da, fun x hx => by rcases List.mem_append.1 hx with hx | hx; exact h.re x hx; rw [List.mem_singleton.1 hx]; exact h.re r hr⟩ (by have := l.ex; simp; omega) (by have := l.im; simp; omega) (by have := l.co; simp; omega) (by have := l.da; simp; omega) (by have := l.re; simp; omega)
theorem take_in {l : List ByteArray} {i : Nat} {y x : ByteArray} (hy : l[i]? = some y) : inB x (l.take (i + 1)) = (inB x (l.take i) || (y.toList == x.toList)) := by
  have e : x ∈ l.take (i + 1) ↔ x ∈ l.take i ∨ y = x := by
    rw [List.take_add_one, hy, List.mem_append]
    exact or_congr Iff.rfl ⟨fun h => (List.mem_singleton.1 h).symm, fun h => List.mem_singleton.2 h.symm⟩
  unfold inB
  rw [str_eq, Bool.eq_iff_iff]
  simp only [decide_eq_true_eq, Bool.or_eq_true]
  exact e
theorem inB_t {l : List ByteArray} {x : ByteArray} (h : inB x l = true) : x ∈ l := by unfold inB at h; simpa using h
theorem inB_f {l : List ByteArray} {x : ByteArray} (h : inB x l = false) : x ∉ l := by unfold inB at h; simpa using h
theorem validMore_c {G : Heap} (g : GH G) (hs : Sub G H) (m : Mod) (hm : m.num) (x : ByteArray) : AC Tryd.prog 6 [m.tv, .s (.string x)] H (fun r H' => r = .s (.bool true) ∧ H' = H) := by
  refine AC.body Tryd.func6 rfl rfl (n := 114) (res := [.tmp 4]) rfl rfl (by simp) ?_
  simp only [ent]
  have S1 := fun H => rsize_c m H
  have W := later fun (K : Heap) (hs : Sub G K) => awake_c g hs
  have M1 := later fun (hm : m.ok) (K : Heap) (hs : Sub G K) => vCheck_c g hs m hm
  have hlt := later fun (h : decide ((2000 : Int) < m.size) = false) => little_of h
  have hfi := later fun (h : (m.chk != 0) = false) => good_iff.1 (chk_fine h)
  have hnum := later hm
  have C := later fun (hl : m.little) H => copy_c m hl H
  clear hm
  simp only [Mod.tv_def, Mod.own_def] at S1 M1 C ⊢
  generalize m.size = sz at *
  generalize m.chk = c1 at *
  (repeat' (first | refine wk ?_ | refine wk2 ?_ ?_ | with_reducible refine wkF fun _ _ _ => ?_ | with_reducible intro _ | exact ag | fail))
  rename_i v hv hvn
  have hsv := later fun r => Sub.upd (r := r) hs (hs.none hv)
  cases q1 : decide ((2000 : Int) < sz) with
  | true =>
    (repeat' (first | refine wk ?_ | refine wk2 ?_ ?_ | with_reducible refine wkF fun _ _ _ => ?_ | with_reducible intro _ | refine Calling.eq (S1 _) ?_ | refine Calling.eq (W.go _ (hsv.go _)) ?_ | exact ag | fail))
    exact fin0
  | false =>
    have hli := later (hlt.go q1)
    have hko := later (ok_of hnum.go hli.go)
    replace M1 := later (M1.go hko.go)
    cases q2 : (c1 != 0) with
    | true =>
      (repeat' (first | refine wk ?_ | refine wk2 ?_ ?_ | with_reducible refine wkF fun _ _ _ => ?_ | with_reducible intro _ | refine Calling.eq (S1 _) ?_ | refine Calling.eq (M1.go _ (hsv.go _)) ?_ | refine Calling.eq (W.go _ (hsv.go _)) ?_ | exact ag | fail))
      exact fin0
    | false =>
      have hf := later (hfi.go q2)
      (repeat' (first | refine wk ?_ | refine wk2 ?_ ?_ | with_reducible refine wkF fun _ _ _ => ?_ | with_reducible intro _ | refine Calling.eq (S1 _) ?_ | refine Calling.eq (M1.go _ (hsv.go _)) ?_ | exact ag | fail))
      clear S1 M1 q1 q2 hlt hfi
      refine Calling.by (C.go hli.go _) ?_
      rintro r K ⟨b1, b2, b3, b4, b5, rfl, O⟩
      replace O := later O
      have hKv := O.go.sub v _ (upd_self _ _ _)
      (repeat' (first | refine wk ?_ | refine wk2 ?_ ?_ | with_reducible refine wkF fun _ _ _ => ?_ | with_reducible intro _ | refine Doing.fresh (oc_build1 ap22 (fun _ h => by cases h; rfl) rfl rfl (by decide) (by decide)) fun _ _ _ => ?_ | exact ag | fail))
      rename_i t ht htn c hcc hcn
      have O1 : Owns (upd H v (.cells m.cells)) (upd K t (.cells (m.oc b1 b2 b3 b4 b5))) (m.rows b1 b2 b3 b4 b5 ++ [(t, 0, [m.oc b1 b2 b3 b4 b5])]) := O.go.cell ht
      refine Doing.by (app_im (w := x) (m := m) (O1.fresh hcc) (upd_self _ _ _) hli.go.im) ?_
      rintro r K' ⟨b', rfl, O2⟩
      have e1 := O2.at
      have e2 := O2.sub v _ (upd_self _ _ _)
      have O3 := O2.put (ds := ({ m with im := m.im ++ [x] } : Mod).oc b1 b' b3 b4 b5)
      have MO := modO_c g (ok_im hnum.go hli.go x) (O3.left.less (hsv.go _))
      have p1 := later (more_big (m := m) (x := x))
      have p2 := later (fun a b c => more_name hf.go (x := x) a b c)
      have p3 := later (fun a b c => more_twice hf.go (x := x) a b c)
      have p4 := later (fun a b c d => flt_good (good_more hf.go (x := x) a b c d))
      have hs3 := later O3.sub
      generalize ({ m with im := m.im ++ [x] } : Mod).flt = f at *
      clear O1 O2 O3 hcc hcn ht htn hKv O
      simp only [Mod.own_def, Mod.oc, Mod.cells] at MO e1 e2
      (repeat' (first | refine wk ?_ | refine wk2 ?_ ?_ | with_reducible refine wkF fun _ _ _ => ?_ | with_reducible intro _ | refine Calling.eq (MO) ?_ | exact ag | fail))
      clear MO e1 e2
      refine ARun.rounds (fun i : Nat => ⟨[(1, .s (.string x)), (2, .s (.pointer (some ⟨v, 0, none⟩))), (6, .s (.int .u8 f.1)), (7, .s (.int .i64 f.2)), (8, .s (.bool (inB x (m.im.take i)))), (9, .s (.int .i64 i))], upd H v (.cells m.cells)⟩) (fun i => m.im.length - i) (fun i => i ≤ m.im.length) ?_ 0 (by omega) ?_
      · rintro i hi next
        have lim := later hko.go.lim
        by_cases hlt : i < m.im.length
        · have h1 : (i : Int) < m.im.length := by omega
          have h2 : (0 : Int) ≤ i := by omega
          obtain ⟨y, hy⟩ := at_ hlt
          have hy1 := vget s1 hy
          rw [s1_def] at hy1
          have hw := w64s (i := i) (by have := lim.go; omega)
          have nx := next.go (i + 1) (by omega) (by omega)
          rw [take_in hy] at nx
          simp only [Mod.cells] at nx ⊢
          replace nx := later nx
          clear next hy
          cases qi : inB x (m.im.take i) with
          | true =>
            rw [qi, Bool.true_or] at nx
            (repeat' (first | refine wk ?_ | refine wk2 ?_ ?_ | with_reducible refine wkF fun _ _ _ => ?_ | with_reducible intro _ | exact ag | fail))
            exact ARun.weaken nx.go (leK (by exact sb))
          | false =>
            rw [qi, Bool.false_or] at nx
            (repeat' (first | refine wk ?_ | refine wk2 ?_ ?_ | with_reducible refine wkF fun _ _ _ => ?_ | with_reducible intro _ | exact ag | fail))
            exact ARun.weaken nx.go (leK (by exact sb))
        · have h1 : decide ((i : Int) < m.im.length) = false := by simp; omega
          obtain rfl : i = m.im.length := by omega
          have hl16 := hf.go.lim
          clear next
          simp only [Mod.cells, List.take_length]
          have hw9 : IntKind.i64.wrap (9 + (m.im.length : Int)) = 9 + m.im.length := wi64 (by omega) (by omega)
          have hw8 : IntKind.i64.wrap (8 + (m.im.length : Int)) = 8 + m.im.length := wi64 (by omega) (by omega)
          have hlb : longB x = decide ((96 : Int) < x.size) := rfl
          cases q16 : (((m.im.length : Nat) : Int) == 16) with
          | true =>
            have hf1 := p1.go (.inl q16)
            (repeat' (first | refine wk ?_ | refine wk2 ?_ ?_ | with_reducible refine wkF fun _ _ _ => ?_ | with_reducible intro _ | refine Calling.eq (W.go _ (hsv.go _)) ?_ | exact ag | fail))
            exact fin0
          | false =>
            rw [q16] at p2 p3
            cases q96 : decide ((96 : Int) < x.size) with
            | true =>
              have hf1 := p1.go (.inr (hlb.trans q96))
              (repeat' (first | refine wk ?_ | refine wk2 ?_ ?_ | with_reducible refine wkF fun _ _ _ => ?_ | with_reducible intro _ | refine Calling.eq (W.go _ (hsv.go _)) ?_ | exact ag | fail))
              exact fin0
            | false =>
              replace hlb := hlb.trans q96
              cases qb : badN x with
              | true =>
                have hf2 := p2.go rfl hlb qb
                subst hf2
                (repeat' (first | refine wk ?_ | refine wk2 ?_ ?_ | with_reducible refine wkF fun _ _ _ => ?_ | with_reducible intro _ | refine Calling.eq (W.go _ (hsv.go _)) ?_ | exact ag | fail))
                exact fin0
              | false =>
                cases qi : inB x m.im with
                | true =>
                  have hf2 := p3.go rfl hlb (inB_t qi)
                  subst hf2
                  (repeat' (first | refine wk ?_ | refine wk2 ?_ ?_ | with_reducible refine wkF fun _ _ _ => ?_ | with_reducible intro _ | refine Calling.eq (W.go _ (hsv.go _)) ?_ | exact ag | fail))
                  exact fin0
                | false =>
                  have hf1 := p4.go (by simp at q16; omega) hlb qb (inB_f qi)
                  clear p1 p2 p3 p4
                  (repeat' (first | refine wk ?_ | refine wk2 ?_ ?_ | with_reducible refine wkF fun _ _ _ => ?_ | with_reducible intro _ | exact ag | fail))
                  refine Calling.by (C.go hli.go _) ?_
                  rintro r K ⟨b1, b2, b3, b4, b5, rfl, O⟩
                  replace O := later O
                  have hKv := O.go.sub v _ (upd_self _ _ _)
                  (repeat' (first | refine wk ?_ | refine wk2 ?_ ?_ | with_reducible refine wkF fun _ _ _ => ?_ | with_reducible intro _ | refine Doing.fresh (oc_build1 ap23 (fun _ h => by cases h; rfl) rfl rfl (by decide) (by decide)) fun _ _ _ => ?_ | exact ag | fail))
                  rename_i t ht htn c hcc hcn
                  have O1 : Owns (upd H v (.cells m.cells)) (upd K t (.cells (m.oc b1 b2 b3 b4 b5))) (m.rows b1 b2 b3 b4 b5 ++ [(t, 0, [m.oc b1 b2 b3 b4 b5])]) := O.go.cell ht
                  refine Doing.by (app_da (w := 7) (m := m) (O1.fresh hcc) (upd_self _ _ _) hli.go.da) ?_
                  rintro r K' ⟨b', rfl, O2⟩
                  have e1 := O2.at
                  have e2 := O2.sub v _ (upd_self _ _ _)
                  have O3 := O2.put (ds := ({ m with da := m.da ++ [7] } : Mod).oc b1 b2 b3 b' b5)
                  have CO := chkO_c g (ok_da hnum.go hli.go) (O3.left.less (hsv.go _))
                  have hdc := data_chk hf.go
                  have hs3 := later ((O3.sub).trans (Sub.refl _))
                  have hvt : (v = t) = False := eq_false fun e => by rw [e, ht] at hKv; cases hKv
                  have hsG := later (O3.left.less (hsv.go _)).sub
                  have hsH : Sub H _ := Sub.trans (Sub.upd (Sub.refl _) hv) O3.sub
                  generalize ({ m with da := m.da ++ [7] } : Mod).chk = c2 at *
                  clear O1 O2 O3 hcc hcn ht htn hKv O
                  simp only [Mod.own_def, Mod.oc, Mod.cells] at CO e1 e2 hsG hs3 hsH
                  cases qd : decide ((m.da.length : Int) < 128)
                  all_goals
                    rw [qd] at hdc
                    (repeat' (first | refine wk ?_ | refine wk2 ?_ ?_ | with_reducible refine wkF fun _ _ _ => ?_ | with_reducible intro _ | exact ag | fail))
                    refine ARun.drawB mixed [([], [0, 1, 2, 3, 6, 7, 8, 9], some 4), ([0, 1, 6, 7, 8, 9], [5, 10, 11, 12], some 13), ([0, 1, 2, 3, 6, 7, 8, 9, 5, 10, 11], [14, 15], none)] (by kernel_rfl) (by rfl) ?_
                    (repeat' (first | refine wk ?_ | refine wk2 ?_ ?_ | with_reducible refine wkF fun _ _ _ => ?_ | with_reducible intro _ | refine Calling.eq (CO) ?_ | refine Calling.eq (W.go _ hsG.go) ?_ | exact ag | fail))
                    exact fin0
      · have e0 : inB x ([] : List ByteArray) = false := rfl
        rw [List.take_zero, e0]
        exact leK hs3.go
end Go.Abs
/- The law of modules that name a thing twice. -/
namespace Go.Abs
set_option linter.unusedSimpArgs false
set_option linter.unusedVariables false
set_option maxHeartbeats 4000000
open Go.Proofs Go.Nm Go.Wd
set_option linter.unusedVariables false
set_option maxRecDepth 8000
variable {H : Heap}
theorem mod3 {a : Nat} (ha : a < 256) : (((a : Int).tmod 3 == 0) = true ∧ ((a : Int).tmod 3 == 1) = false ∧ ((a : Int).tmod 3 == 2) = false) ∨ (((a : Int).tmod 3 == 0) = false ∧ ((a : Int).tmod 3 == 1) = true ∧ ((a : Int).tmod 3 == 2) = false) ∨ (((a : Int).tmod 3 == 0) = false ∧ ((a : Int).tmod 3 == 1) = false ∧ ((a : Int).tmod 3 == 2) = true) := by
  have h : (a : Int).tmod 3 = ((a % 3 : Nat) : Int) := by rw [Int.tmod_eq_emod_of_nonneg (by omega)]; omega
  rw [h]
  have : a % 3 = 0 ∨ a % 3 = 1 ∨ a % 3 = 2 := by omega
  rcases this with h | h | h <;> rw [h] <;> simp
theorem head_or {α : Type} (l : List α) : (decide ((0 : Int) < l.length) = false ∧ l = []) ∨ (decide ((0 : Int) < l.length) = true ∧ ∃ x, l[0]? = some x) := by
  cases l with
  | nil => exact .inl ⟨rfl, rfl⟩
  | cons x l => exact .inr ⟨decide_eq_true (by rw [List.length_cons]; omega), x, rfl⟩
/-- What is said of a module changed so. -/
structure Twice (m n : Mod) : Prop where
  ne : decide (n = m) = false
  flt : n.flt.1 = 1 ∨ n.flt.1 = 3 ∨ n.flt.1 = 6
  chk : n.chk = 20
theorem tw_ex {m : Mod} (h : m.good) {x : ByteArray} (hx : m.ex[0]? = some x) : Twice m { m with ex := m.ex ++ [x] } := by
  have h2 := twice_ex h (List.mem_of_getElem? hx)
  refine ⟨decide_eq_false fun e => ?_, h2.imp_right .inl, chk_bad20 (by rcases h2 with h2 | h2 <;> rw [h2] <;> decide)⟩
  have := congrArg (fun m => m.ex.length) e; simp at this
theorem tw_im {m : Mod} (h : m.good) {x : ByteArray} (hx : m.im[0]? = some x) : Twice m { m with im := m.im ++ [x] } := by
  have h2 := twice_im h (List.mem_of_getElem? hx)
  refine ⟨decide_eq_false fun e => ?_, h2.imp_right .inl, chk_bad20 (by rcases h2 with h2 | h2 <;> rw [h2] <;> decide)⟩
  have := congrArg (fun m => m.im.length) e; simp at this
theorem tw_re {m : Mod} (h : m.good) {x : Rlc} (hx : m.re[0]? = some x) : Twice m { m with re := m.re ++ [x] } := by
  have h2 := twice_re h (List.mem_of_getElem? hx)
  refine ⟨decide_eq_false fun e => ?_, h2.imp_right .inr, chk_bad20 (by rcases h2 with h2 | h2 <;> rw [h2] <;> decide)⟩
  have := congrArg (fun m => m.re.length) e; simp at this
theorem validTwice_c {G : Heap} (g : GH G) (hs : Sub G H) (m : Mod) (hm : m.num) (a : Nat) (ha : a < 256) : AC Tryd.prog 7 [m.tv, .s (.int .u8 a)] H (fun r H' => r = .s (.bool true) ∧ H' = H) := by
  refine AC.body Tryd.func7 rfl rfl (n := 108) (res := [.tmp 4]) rfl rfl (by simp) ?_
  simp only [ent]
  have S1 := fun H => rsize_c m H
  have W := later fun (K : Heap) (hs : Sub G K) => awake_c g hs
  have M1 := later fun (hm : m.ok) (K : Heap) (hs : Sub G K) => vCheck_c g hs m hm
  have hlt := later fun (h : decide ((2000 : Int) < m.size) = false) => little_of h
  have hfi := later fun (h : (m.chk != 0) = false) => good_iff.1 (chk_fine h)
  have hnum := later hm
  have C := later fun (hl : m.little) H => copy_c m hl H
  have h3 := mod3 ha
  clear hm ha
  simp only [Mod.tv_def, Mod.own_def] at S1 M1 C ⊢
  generalize m.size = sz at *
  generalize m.chk = c1 at *
  have hn3 : ((3 : Int) = 0) = False := by simp
  (repeat' (first | refine wk ?_ | refine wk2 ?_ ?_ | with_reducible refine wkF fun _ _ _ => ?_ | with_reducible intro _ | exact ag | fail))
  rename_i v hv hvn
  have hsv := later fun r => Sub.upd (r := r) hs (hs.none hv)
  cases q1 : decide ((2000 : Int) < sz) with
  | true =>
    (repeat' (first | refine wk ?_ | refine wk2 ?_ ?_ | with_reducible refine wkF fun _ _ _ => ?_ | with_reducible intro _ | refine Calling.eq (S1 _) ?_ | refine Calling.eq (W.go _ (hsv.go _)) ?_ | exact ag | fail))
    exact fin0
  | false =>
    have hli := later (hlt.go q1)
    have hko := later (ok_of hnum.go hli.go)
    replace M1 := later (M1.go hko.go)
    cases q2 : (c1 != 0) with
    | true =>
      (repeat' (first | refine wk ?_ | refine wk2 ?_ ?_ | with_reducible refine wkF fun _ _ _ => ?_ | with_reducible intro _ | refine Calling.eq (S1 _) ?_ | refine Calling.eq (M1.go _ (hsv.go _)) ?_ | refine Calling.eq (W.go _ (hsv.go _)) ?_ | exact ag | fail))
      exact fin0
    | false =>
      have hf := later (hfi.go q2)
      (repeat' (first | refine wk ?_ | refine wk2 ?_ ?_ | with_reducible refine wkF fun _ _ _ => ?_ | with_reducible intro _ | refine Calling.eq (S1 _) ?_ | refine Calling.eq (M1.go _ (hsv.go _)) ?_ | exact ag | fail))
      clear S1 M1 q1 q2 hlt hfi
      refine Calling.by (C.go hli.go _) ?_
      rintro r K ⟨b1, b2, b3, b4, b5, rfl, O⟩
      clear C
      replace O := later O
      have hKv := O.go.sub v _ (upd_self _ _ _)
      (repeat' first | refine wk ?_ | with_reducible refine wkF fun _ _ _ => ?_)
      rename_i t ht htn
      have O1 : Owns (upd H v (.cells m.cells)) (upd K t (.cells (m.oc b1 b2 b3 b4 b5))) (m.rows b1 b2 b3 b4 b5 ++ [(t, 0, [m.oc b1 b2 b3 b4 b5])]) := O.go.cell ht
      have hvt : (v = t) = False := eq_false fun e => by rw [e, ht] at hKv; cases hKv
      have htv : (t = v) = False := eq_false fun e => by rw [← e, ht] at hKv; cases hKv
      replace O1 := later O1
      have okm := hko.go
      have fm := flt_good hf.go
      have Ot := fun c => (O.go.less (hsv.go _)).fresh (c := c) ht
      have MM := fun (K : Heap) (b1 b2 b3 b4 b5 : Nat) (O : Owns G K (m.rows b1 b2 b3 b4 b5)) => modO_c g okm O
      have SM := fun (K : Heap) (b1 b2 b3 b4 b5 : Nat) (O : Owns G K (m.rows b1 b2 b3 b4 b5)) => sameO_c (n := m) g okm O
      rw [show decide (m = m) = true from decide_eq_true rfl] at SM
      rw [fm] at MM
      clear fm okm
      have hss : Sub H K := Sub.trans (Sub.upd (Sub.refl _) hv) O.go.sub
      simp only [Mod.own_def, Mod.tv_def] at MM SM
      generalize m.flt.2 = f2 at *
      rcases h3 with ⟨h1, h2, h3⟩ | ⟨h1, h2, h3⟩ | ⟨h1, h2, h3⟩
      · skip
        rcases head_or m.ex with ⟨hl, -⟩ | ⟨hl, x, hx⟩
        · (repeat' (first | refine wk ?_ | refine wk2 ?_ ?_ | with_reducible refine wkF fun _ _ _ => ?_ | with_reducible intro _ | refine Calling.eq (MM _ _ _ _ _ _ (Ot _)) ?_ | refine Calling.eq (SM _ _ _ _ _ _ (Ot _)) ?_ | refine Calling.eq (W.go _ (Ot _).sub) ?_ | exact ag | fail))
          all_goals exact fin0
        · have tw := tw_ex hf.go hx
          have hx1 := vget s1 hx
          rw [s1_def] at hx1
          have okn := ok_ex hnum.go hli.go x
          clear MM SM Ot hx
          (repeat' (first | refine wk ?_ | refine wk2 ?_ ?_ | with_reducible refine wkF fun _ _ _ => ?_ | with_reducible intro _ | exact ag | fail))
          all_goals
            refine ARun.drawB mixed [([], [0, 1, 2, 3, 4, 5], some 6), ([0, 1, 2, 3, 4], [], some 7), ([0, 2, 3, 4, 5], [8], some 9), ([], [], none)] (by kernel_rfl) (by rfl) ?_
            (repeat' (first | refine wk ?_ | refine wk2 ?_ ?_ | with_reducible refine wkF fun _ _ _ => ?_ | with_reducible intro _ | refine Doing.fresh (oc_build1 ap22 (fun _ h => by cases h; rfl) rfl rfl (by decide) (by decide)) fun _ _ _ => ?_ | exact ag | fail))
            rename_i c hcc hcn
            refine Doing.by (app_ex (w := x) (m := m) (O1.go.fresh hcc) (upd_self _ _ _) hli.go.ex) ?_
            rintro r K' ⟨b', rfl, O2⟩
            have e1 := O2.at
            have e2 := O2.sub v _ (upd_self _ _ _)
            have O3 := O2.put (ds := ({ m with ex := m.ex ++ [x] } : Mod).oc b' b2 b3 b4 b5)
            have MO := modO_c g okn (O3.left.less (hsv.go _))
            have CO := chkO_c g okn (O3.left.less (hsv.go _))
            have SO := sameO_c (n := m) g okn (O3.left.less (hsv.go _))
            rw [tw.ne] at SO
            rw [tw.chk] at CO
            have hsG := later (O3.left.less (hsv.go _)).sub
            have hsH : Sub H _ := Sub.trans (Sub.upd (Sub.refl _) hv) O3.sub
            replace tw := tw.flt
            generalize ({ m with ex := m.ex ++ [x] } : Mod).flt = f at *
            obtain ⟨f, f'⟩ := f
            clear O1 O2 O3 hcc hcn ht htn hKv O okn
            simp only [Mod.own_def, Mod.oc, Mod.cells, Mod.tv_def] at MO CO SO e1 e2 hsG hsH tw
            rcases tw with rfl | rfl | rfl
            all_goals
              (repeat' (first | refine wk ?_ | refine wk2 ?_ ?_ | with_reducible refine wkF fun _ _ _ => ?_ | with_reducible intro _ | refine Calling.eq (MO) ?_ | refine Calling.eq (SO) ?_ | refine Calling.eq (CO) ?_ | refine Calling.eq (W.go _ hsG.go) ?_ | exact ag | fail))
              all_goals exact fin0
      · skip
        rcases head_or m.im with ⟨hl, -⟩ | ⟨hl, x, hx⟩
        · (repeat' (first | refine wk ?_ | refine wk2 ?_ ?_ | with_reducible refine wkF fun _ _ _ => ?_ | with_reducible intro _ | refine Calling.eq (MM _ _ _ _ _ _ (Ot _)) ?_ | refine Calling.eq (SM _ _ _ _ _ _ (Ot _)) ?_ | refine Calling.eq (W.go _ (Ot _).sub) ?_ | exact ag | fail))
          all_goals exact fin0
        · have tw := tw_im hf.go hx
          have hx1 := vget s1 hx
          rw [s1_def] at hx1
          have okn := ok_im hnum.go hli.go x
          clear MM SM Ot hx
          (repeat' (first | refine wk ?_ | refine wk2 ?_ ?_ | with_reducible refine wkF fun _ _ _ => ?_ | with_reducible intro _ | exact ag | fail))
          all_goals
            refine ARun.drawB mixed [([], [0, 1, 2, 3, 4, 5], some 6), ([0, 1, 2, 3, 4], [], some 7), ([0, 2, 3, 4, 5], [8], some 9), ([], [], none)] (by kernel_rfl) (by rfl) ?_
            (repeat' (first | refine wk ?_ | refine wk2 ?_ ?_ | with_reducible refine wkF fun _ _ _ => ?_ | with_reducible intro _ | refine Doing.fresh (oc_build1 ap22 (fun _ h => by cases h; rfl) rfl rfl (by decide) (by decide)) fun _ _ _ => ?_ | exact ag | fail))
            rename_i c hcc hcn
            refine Doing.by (app_im (w := x) (m := m) (O1.go.fresh hcc) (upd_self _ _ _) hli.go.im) ?_
            rintro r K' ⟨b', rfl, O2⟩
            have e1 := O2.at
            have e2 := O2.sub v _ (upd_self _ _ _)
            have O3 := O2.put (ds := ({ m with im := m.im ++ [x] } : Mod).oc b1 b' b3 b4 b5)
            have MO := modO_c g okn (O3.left.less (hsv.go _))
            have CO := chkO_c g okn (O3.left.less (hsv.go _))
            have SO := sameO_c (n := m) g okn (O3.left.less (hsv.go _))
            rw [tw.ne] at SO
            rw [tw.chk] at CO
            have hsG := later (O3.left.less (hsv.go _)).sub
            have hsH : Sub H _ := Sub.trans (Sub.upd (Sub.refl _) hv) O3.sub
            replace tw := tw.flt
            generalize ({ m with im := m.im ++ [x] } : Mod).flt = f at *
            obtain ⟨f, f'⟩ := f
            clear O1 O2 O3 hcc hcn ht htn hKv O okn
            simp only [Mod.own_def, Mod.oc, Mod.cells, Mod.tv_def] at MO CO SO e1 e2 hsG hsH tw
            rcases tw with rfl | rfl | rfl
            all_goals
              (repeat' (first | refine wk ?_ | refine wk2 ?_ ?_ | with_reducible refine wkF fun _ _ _ => ?_ | with_reducible intro _ | refine Calling.eq (MO) ?_ | refine Calling.eq (SO) ?_ | refine Calling.eq (CO) ?_ | refine Calling.eq (W.go _ hsG.go) ?_ | exact ag | fail))
              all_goals exact fin0
      · skip
        rcases head_or m.re with ⟨hl, -⟩ | ⟨hl, x, hx⟩
        · (repeat' (first | refine wk ?_ | refine wk2 ?_ ?_ | with_reducible refine wkF fun _ _ _ => ?_ | with_reducible intro _ | refine Calling.eq (MM _ _ _ _ _ _ (Ot _)) ?_ | refine Calling.eq (SM _ _ _ _ _ _ (Ot _)) ?_ | refine Calling.eq (W.go _ (Ot _).sub) ?_ | exact ag | fail))
          all_goals exact fin0
        · have tw := tw_re hf.go hx
          have hx1 := vget relE hx
          rw [relE_def] at hx1
          have okn := ok_re hnum.go hli.go (List.mem_of_getElem? hx)
          clear MM SM Ot hx
          (repeat' (first | refine wk ?_ | refine wk2 ?_ ?_ | with_reducible refine wkF fun _ _ _ => ?_ | with_reducible intro _ | exact ag | fail))
          all_goals
            refine ARun.drawB mixed [([], [0, 1, 2, 3, 4, 5], some 6), ([0, 1, 2, 3, 4], [], some 7), ([0, 2, 3, 4, 5], [8], some 9), ([], [], none)] (by kernel_rfl) (by rfl) ?_
            (repeat' (first | refine wk ?_ | refine wk2 ?_ ?_ | with_reducible refine wkF fun _ _ _ => ?_ | with_reducible intro _ | refine Doing.fresh (oc_build1 ap24 (fun _ h => by cases h; rfl) rfl rfl (by decide) (by decide)) fun _ _ _ => ?_ | exact ag | fail))
            rename_i c hcc hcn
            refine Doing.by (app_re (w := x) (m := m) (O1.go.fresh hcc) (upd_self _ _ _) hli.go.re) ?_
            rintro r K' ⟨b', rfl, O2⟩
            have e1 := O2.at
            have e2 := O2.sub v _ (upd_self _ _ _)
            have O3 := O2.put (ds := ({ m with re := m.re ++ [x] } : Mod).oc b1 b2 b3 b4 b')
            have MO := modO_c g okn (O3.left.less (hsv.go _))
            have CO := chkO_c g okn (O3.left.less (hsv.go _))
            have SO := sameO_c (n := m) g okn (O3.left.less (hsv.go _))
            rw [tw.ne] at SO
            rw [tw.chk] at CO
            have hsG := later (O3.left.less (hsv.go _)).sub
            have hsH : Sub H _ := Sub.trans (Sub.upd (Sub.refl _) hv) O3.sub
            replace tw := tw.flt
            generalize ({ m with re := m.re ++ [x] } : Mod).flt = f at *
            obtain ⟨f, f'⟩ := f
            clear O1 O2 O3 hcc hcn ht htn hKv O okn
            simp only [Mod.own_def, Mod.oc, Mod.cells, Mod.tv_def] at MO CO SO e1 e2 hsG hsH tw
            rcases tw with rfl | rfl | rfl
            all_goals
              (repeat' (first | refine wk ?_ | refine wk2 ?_ ?_ | with_reducible refine wkF fun _ _ _ => ?_ | with_reducible intro _ | refine Calling.eq (MO) ?_ | refine Calling.eq (SO) ?_ | refine Calling.eq (CO) ?_ | refine Calling.eq (W.go _ hsG.go) ?_ | exact ag | fail))
              all_goals exact fin0
end Go.Abs
