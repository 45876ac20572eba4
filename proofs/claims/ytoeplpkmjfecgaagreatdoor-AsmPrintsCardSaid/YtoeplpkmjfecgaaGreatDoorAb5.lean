import Derived.Test.YtoeplpkmjfecgaaGreatDoorAb4
/- That what valA says is what the operation makes. -/
namespace Go.Abs
set_option linter.unusedSimpArgs false
set_option linter.unusedVariables false
set_option linter.unusedVariables false
section
variable {P : Program} {w : World} {H : Heap} {F : Nat → Prop}
theorem RepE.length {k : Nat} : ∀ {es : List (List TV)} {a : Option Addr} {n : Nat}, RepE w F a k n es → n = es.length
  | [], a, n, h => by simpa only [RepE, List.length_nil] using h
  | e :: es, a, n, h => by
    simp only [RepE] at h; obtain ⟨b, off, m, rfl, rfl, hb, hl, h1, h2⟩ := h
    simp [RepE.length h2]
theorem RepE.get {k : Nat} : ∀ {es : List (List TV)} {a : Option Addr} {n : Nat}, RepE w F a k n es → ∀ {i : Nat} {e : List TV}, es[i]? = some e →
    ∃ b off, a = some ⟨b, off, none⟩ ∧ F b ∧ e.length = k ∧ RepC w F b (off + i * k) e
  | [], a, n, h, i, e, hi => by simp at hi
  | u :: es, a, n, h, i, e, hi => by
    simp only [RepE] at h; obtain ⟨b, off, m, rfl, rfl, hb, hl, h1, h2⟩ := h
    cases i with
    | zero => simp at hi; subst hi; exact ⟨b, off, rfl, hb, hl, by simpa using h1⟩
    | succ i =>
      simp at hi
      obtain ⟨b', off', e1, g1, g2, g3⟩ := RepE.get h2 hi
      simp at e1; obtain ⟨rfl, rfl⟩ := e1
      exact ⟨b, off, rfl, hb, g2, by rwa [show off + (i + 1) * k = off + k + i * k by rw [Nat.add_mul]; omega]⟩
theorem RepE.nil {k : Nat} {a : Option Addr} : RepE w F a k 0 [] := by simp only [RepE]
theorem RepE.take {k : Nat} : ∀ {es : List (List TV)} {a : Option Addr} {n : Nat} (i : Nat), RepE w F a k n es → RepE w F a k (min i n) (es.take i)
  | [], a, n, i, h => by simp only [RepE] at h; subst h; simp only [List.take_nil, RepE]; omega
  | u :: es, a, n, 0, h => by simp only [List.take_zero, RepE]; omega
  | u :: es, a, n, i + 1, h => by
    simp only [RepE] at h; obtain ⟨b, off, m, rfl, rfl, hb, hl, h1, h2⟩ := h
    simp only [List.take_succ_cons, RepE]
    exact ⟨b, off, min i m, rfl, by omega, hb, hl, h1, RepE.take i h2⟩
theorem RepE.drop {k : Nat} : ∀ {es : List (List TV)} {a : Option Addr} {n : Nat} (i : Nat), RepE w F a k n es → RepE w F (a.map (·.add (i * k))) k (n - i) (es.drop i)
  | [], a, n, i, h => by simp only [RepE] at h; subst h; simp only [List.drop_nil, RepE]; omega
  | u :: es, a, n, 0, h => by
    have : a.map (·.add (0 * k)) = a := by
      cases a <;> simp [Addr.add]
    rw [this]; simpa using h
  | u :: es, a, n, i + 1, h => by
    simp only [RepE] at h; obtain ⟨b, off, m, rfl, rfl, hb, hl, h1, h2⟩ := h
    have := RepE.drop i h2
    simp only [Option.map_some, addr_add] at this ⊢
    rw [show off + (i + 1) * k = off + k + i * k by rw [Nat.add_mul]; omega, show m + 1 - (i + 1) = m - i by omega]
    exact this
theorem el_under {T : TypeId} {k : Nat} (h : elP P T = some k) : ∃ e g, P.underlying T = some (.slice e) ∧ szP P e = some (g, k) := by
  unfold elP at h
  split at h
  · rename_i e hu
    cases hz : szP P e with
    | none => rw [hz] at h; cases h
    | some p => rw [hz] at h; simp at h; exact ⟨e, p.1, hu, by rw [hz, ← h]⟩
  · cases h
theorem ar_under {T : TypeId} {m k : Nat} {g : Bool} (h : arP P T = some (m, g, k)) : ∃ e, P.underlying T = some (.array m e) ∧ szP P e = some (g, k) := by
  unfold arP at h
  split at h
  · rename_i m' e hu
    cases hz : szP P e with
    | none => rw [hz] at h; cases h
    | some p =>
      rw [hz] at h; simp only [Option.map_some, Option.some.injEq, Prod.mk.injEq] at h
      obtain ⟨rfl, rfl, rfl⟩ := h; exact ⟨e, hu, hz⟩
  · cases h
theorem str_under {T : TypeId} (h : isStr P T = true) : P.underlying T = some .string := by
  unfold isStr at h; split at h
  · assumption
  · cases h
theorem fld_under {T : TypeId} {f off n : Nat} {g : Bool} (h : fldP P T f = some (off, g, n)) : ∃ fs fd, P.underlying T = some (.struct fs) ∧ fs[f]? = some fd ∧ szP P fd.type = some (g, n) ∧ n ≠ 0 ∧ fd.offset = off := by
  unfold fldP at h
  split at h
  · rename_i fs hu
    split at h
    · rename_i fd hf
      split at h
      · rename_i g' n' hz
        split at h
        · cases h
        · rename_i hn
          simp only [Option.some.injEq, Prod.mk.injEq] at h
          obtain ⟨rfl, rfl, rfl⟩ := h
          exact ⟨fs, fd, hu, hf, hz, hn, rfl⟩
      · cases h
    · cases h
  · cases h

theorem sliceA_run {n : NT} {A : AS} {a : Act} (r : Rel n A a w) {T : TypeId} {x v : TV} {y : Value} {lo hi mx : Option Operand} (hx : Rep w (Fr A.H w) x y)
    (h : sliceA P A.env T x lo hi mx = some v) : ∃ z, (Instr.sliceAt T y (lo.map a.eval) (hi.map a.eval) (mx.map a.eval)).run P w = .ok z w ∧ Rep w (Fr A.H w) v z := by
  unfold sliceA at h
  split at h
  · rename_i s
    split at h
    · rename_i hc; simp only [Bool.and_eq_true, Option.isNone_iff_eq_none] at hc; obtain ⟨hT, rfl⟩ := hc
      split at h
      · rename_i l hh hl hhi
        split at h
        · rename_i hb; obtain ⟨h0, h1, h2⟩ := hb
          simp at h; subst h
          simp only [Rep] at hx; subst hx
          refine ⟨.string (s.extract l.toNat hh.toNat), ?_, by simp only [Rep]⟩
          have hu := str_under hT
          unfold Instr.sliceAt
          rw [run_ok (run_under hu)]
          unfold Instr.slice
          simp only []
          rw [run_ok (run_under hu)]
          simp only [Option.map_none, Option.isSome_none, Bool.false_eq_true, if_false]
          have hb := run_bounds (P := P) (isS := false) (cap := s.size) (dm := s.size) r hl hhi (mx := none) (m := s.size) rfl h0 h1 h2 (by omega) (fun _ => h2) (by simp)
          simp only [Option.map_none] at hb
          rw [run_ok hb]; rfl
        · cases h
      · cases h
    · cases h
  · rename_i k es
    split at h
    · rename_i hk; obtain ⟨hk, hmx⟩ := hk
      split at h
      · rename_i l hh m hl hhi hm
        split at h
        · rename_i hb; obtain ⟨h0, h1, h2, h3⟩ := hb
          simp only [Rep] at hx
          obtain ⟨ad, nn, cap, rfl, hcap, he⟩ := hx
          have hn := he.length; subst hn
          obtain ⟨e, g, hu, hz⟩ := el_under hk
          have hb := run_bounds (P := P) (isS := true) (cap := cap) (dm := es.length) r hl hhi hm h0 h1 h2 (by omega) (fun _ => by omega) hmx
          have hrun : (Instr.sliceAt T (.slice ad es.length cap) (lo.map a.eval) (hi.map a.eval) (mx.map a.eval)).run P w =
              .ok (.slice (if (if mx.isSome then m.toNat else cap) = l.toNat then ad else ad.map (·.add (l.toNat * k))) (hh.toNat - l.toNat) ((if mx.isSome then m.toNat else cap) - l.toNat)) w := by
            unfold Instr.sliceAt
            rw [run_ok (run_under hu)]
            unfold Instr.slice
            simp only []
            rw [run_ok (run_under hu)]
            simp only []
            rw [run_ok hb]
            simp only []
            rw [run_ok (run_size hz)]; rfl
          refine ⟨_, hrun, ?_⟩
          split at h
          · rename_i hml; simp at h; subst h
            obtain ⟨hs, rfl⟩ := hml
            have : hh = m := by omega
            subst this
            simp only [Rep, hs, if_true, Nat.sub_self]; exact ⟨_, rfl⟩
          · simp at h; subst h
            simp only [Rep]
            have hle : m.toNat ≤ cap := by omega
            refine ⟨_, _, _, rfl, by split <;> omega, ?_⟩
            have hlen : (es.drop l.toNat).length = es.length - l.toNat := List.length_drop
            by_cases hz0 : hh.toNat - l.toNat = 0
            · rw [hz0, List.take_zero]; exact .nil
            · have hd := (he.drop l.toNat).take (hh.toNat - l.toNat)
              rw [Nat.min_eq_left (by omega)] at hd
              rw [if_neg (by split <;> omega)]
              exact hd
        · cases h
      · cases h
    · cases h
  · split at h
    · rename_i hk; obtain ⟨hk, hmx⟩ := hk
      split at h
      · rename_i hl hhi hm
        simp at h; subst h
        simp only [Rep] at hx
        obtain ⟨ad, rfl⟩ := hx
        obtain ⟨k, hk⟩ := Option.isSome_iff_exists.1 hk
        obtain ⟨e, g, hu, hz⟩ := el_under hk
        have hb := run_bounds (P := P) (isS := true) (len := 0) (cap := 0) (dm := 0) r hl hhi hm (by omega) (by omega) (by omega) (by omega) (fun _ => by omega) hmx
        refine ⟨.slice ad 0 0, ?_, by simp only [Rep]; exact ⟨_, rfl⟩⟩
        unfold Instr.sliceAt
        rw [run_ok (run_under hu)]
        unfold Instr.slice
        simp only []
        rw [run_ok (run_under hu)]
        simp only []
        rw [run_ok hb]
        simp only []
        rw [run_ok (run_size hz)]
        simp [run_pure]
      · cases h
    · cases h
  · rename_i b off n' k
    split at h
    · rename_i hk; obtain ⟨hk, hmx⟩ := hk
      split at h
      · rename_i l hh m hl hhi hm
        split at h
        · rename_i hb; obtain ⟨h0, h1, h2, h3⟩ := hb
          simp at h; subst h
          simp only [Rep] at hx
          obtain ⟨ad, cap, rfl, hcap, he⟩ := hx
          obtain ⟨e, g, hu, hz⟩ := el_under hk
          have hb := run_bounds (P := P) (isS := true) (cap := cap) (dm := n') r hl hhi hm h0 h1 h2 (by omega) (fun _ => by omega) hmx
          refine ⟨.slice (if (if mx.isSome then m.toNat else cap) = l.toNat then ad else ad.map (·.add (l.toNat * k))) (hh.toNat - l.toNat) ((if mx.isSome then m.toNat else cap) - l.toNat), ?_, ?_⟩
          · unfold Instr.sliceAt
            rw [run_ok (run_under hu)]
            unfold Instr.slice
            simp only []
            rw [run_ok (run_under hu)]
            simp only []
            rw [run_ok hb]
            simp only []
            rw [run_ok (run_size hz)]; rfl
          · simp only [Rep]
            have hm2 : (if mx.isSome then m.toNat else cap) ≤ cap := by split <;> omega
            have hm3 : hh.toNat ≤ (if mx.isSome then m.toNat else cap) := by split <;> omega
            refine ⟨_, _, rfl, by omega, ?_⟩
            by_cases hz0 : (if mx.isSome then m.toNat else cap) = l.toNat
            · left; omega
            · right
              rw [if_neg hz0]
              rcases he with he | ⟨rfl, he⟩
              · omega
              · refine ⟨by simp [addr_add], ?_⟩
                have : l.toNat * k + ((if mx.isSome then m.toNat else cap) - l.toNat) * k ≤ cap * k := by
                  rw [← Nat.add_mul]; exact Nat.mul_le_mul_right _ (by omega)
                omega
        · cases h
      · cases h
    · cases h
  · cases h
theorem sliceArrA_run {n : NT} {A : AS} {a : Act} (r : Rel n A a w) {T : TypeId} {x v : TV} {y : Value} {lo hi mx : Option Operand} (hx : Rep w (Fr A.H w) x y)
    (h : sliceArrA P A.H A.env T x lo hi mx = some v) : ∃ z, (Instr.sliceAt T y (lo.map a.eval) (hi.map a.eval) (mx.map a.eval)).run P w = .ok z w ∧ Rep w (Fr A.H w) v z := by
  unfold sliceArrA at h
  split at h
  · rename_i m g k b off hT
    split at h
    · rename_i cs hb
      split at h
      · rename_i hc; obtain ⟨hmx, hsz⟩ := hc
        simp only [Option.isNone_iff_eq_none] at hmx; subst hmx
        split at h
        · rename_i l hh hl hhi
          split at h
          · rename_i hbd; obtain ⟨h0, h1, h2⟩ := hbd
            simp at h; subst h
            simp only [Rep] at hx; subst hx
            obtain ⟨e, hu, hz⟩ := ar_under hT
            have hbs := run_bounds (P := P) (isS := false) (cap := m) (dm := m) r hl hhi (mx := none) (m := m) rfl h0 h1 h2 (by omega) (fun _ => h2) (by simp)
            simp only [Option.map_none] at hbs
            refine ⟨.slice (some (if m = l.toNat then ⟨b, off, none⟩ else ⟨b, off + l.toNat * k, none⟩)) (hh.toNat - l.toNat) (m - l.toNat), ?_, ?_⟩
            · unfold Instr.sliceAt
              rw [run_ok (run_under hu)]
              simp only []
              rw [run_ok (a := (⟨b, off, none⟩ : Addr)) (w' := w) rfl]
              simp only [Option.map_none]
              rw [run_ok hbs]
              simp only []
              rw [run_ok (run_size hz)]
              simp only [addr_add]; rfl
            · simp only [Rep]
              refine ⟨_, _, rfl, by omega, ?_⟩
              by_cases hz0 : m = l.toNat
              · left; omega
              · right
                rw [if_neg hz0]
                refine ⟨rfl, ?_⟩
                obtain ⟨c, elem, fz, hc, _, hlc, _⟩ := r.heap b _ hb
                have : bsz w b = c.size := by unfold bsz; rw [hc]
                rw [this]
                have : l.toNat * k + (m - l.toNat) * k ≤ m * k := by
                  rw [← Nat.add_mul]; exact Nat.mul_le_mul_right _ (by omega)
                omega
          · cases h
        · cases h
      · cases h
    · cases h
  · cases h
theorem fieldAddrA_run {T : TypeId} {f : Nat} {x v : TV} {y : Value} (hx : Rep w F x y) (h : fieldAddrA P T f x = some v) :
    ∃ z, (Instr.fieldAt T y f).run P w = .ok z w ∧ Rep w F v z := by
  have main : ∀ (b off o n : Nat) (g : Bool), fldP P T f = some (o, g, n) → (Instr.fieldAt T (.pointer (some ⟨b, off, none⟩)) f).run P w = .ok (.pointer (some ⟨b, off + o, none⟩)) w := by
    intro b off o n g hf
    obtain ⟨fs, fd, hu, hfs, hz, hn, rfl⟩ := fld_under hf
    unfold Instr.fieldAt
    rw [run_ok (run_under hu)]
    simp only [hfs]
    rw [run_ok (a := (⟨b, off, none⟩ : Addr)) (w' := w) rfl]
    unfold fieldPlace
    rw [run_bind, run_ok (run_size hz)]
    simp only [hn, if_false, addr_add]; rfl
  unfold fieldAddrA at h
  split at h
  · rename_i b off
    cases hf : fldP P T f with
    | none => rw [hf] at h; cases h
    | some p =>
      rw [hf] at h; simp at h; subst h
      simp only [Rep] at hx; subst hx
      exact ⟨_, main b off p.1 p.2.2 p.2.1 hf, by simp only [Rep]⟩
  · rename_i cs
    cases hf : fldP P T f with
    | none => rw [hf] at h; cases h
    | some p =>
      rw [hf] at h; simp at h; subst h
      simp only [Rep] at hx; obtain ⟨b, off, rfl, hF, hc⟩ := hx
      exact ⟨_, main b off p.1 p.2.2 p.2.1 hf, by simp only [Rep]; exact ⟨_, _, rfl, hF, hc.drop _⟩⟩
  · cases h
theorem partA_run {T : TypeId} {g : Bool} {n : Nat} (hz : szP P T = some (g, n)) {cs : List TV} {xs : Array Value} (hx : RepL w F cs xs.toList) {off : Nat} {v : TV} (h : partA g n cs off = some v) :
    ∃ z, (part T xs off).run P w = .ok z w ∧ Rep w F v z := by
  unfold partA at h
  unfold part
  rw [run_ok (run_isAgg hz)]
  cases g with
  | true =>
    simp only [if_true] at h ⊢
    split at h
    · simp at h; subst h
      rw [run_ok (run_size hz)]
      refine ⟨_, rfl, ?_⟩
      simp only [Rep]
      refine ⟨_, rfl, ?_⟩
      have := (hx.drop off).take n
      rw [Array.toList_extract, List.extract_eq_take_drop]
      rw [show off + n - off = n by omega]
      exact this
    · cases h
  | false =>
    simp only [Bool.false_eq_true, if_false] at h ⊢
    obtain ⟨x, h1, h2⟩ := hx.get h
    simp only [Array.getElem?_toList] at h1
    rw [h1]
    exact ⟨x, rfl, h2⟩
theorem fieldA_run {T : TypeId} {f : Nat} {x v : TV} {y : Value} (hx : Rep w F x y) (h : fieldA P T f x = some v) :
    ∃ z, (Instr.field T y f).run P w = .ok z w ∧ Rep w F v z := by
  unfold fieldA at h
  split at h
  · rename_i cs
    split at h
    · rename_i off g n hf
      simp only [Rep] at hx; obtain ⟨xs, rfl, hx⟩ := hx
      obtain ⟨fs, fd, hu, hfs, hz, hn, rfl⟩ := fld_under hf
      obtain ⟨z, h1, h2⟩ := partA_run hz hx h
      refine ⟨z, ?_, h2⟩
      unfold Instr.field
      rw [run_ok (run_under hu)]
      simp only [hfs]
      rw [run_ok (a := xs) (w' := w) rfl]
      exact h1
    · cases h
  · cases h
theorem indexAddrA_run {T : TypeId} {x i v : TV} {y j : Value} (hx : Rep w F x y) (hi : Rep w F i j) (h : indexAddrA P T x i = some v) :
    ∃ z, (Instr.indexAt T y j).run P w = .ok z w ∧ Rep w F v z := by
  unfold indexAddrA at h
  split at h
  · rename_i k es kk i
    simp only [Rep] at hi; subst hi
    split at h
    · rename_i hk; obtain ⟨hk, h0⟩ := hk
      obtain ⟨e, g, hu, hz⟩ := el_under hk
      simp only [Rep] at hx
      obtain ⟨ad, nn, cap, rfl, hcap, he⟩ := hx
      cases hg : es[i.toNat]? with
      | none => rw [hg] at h; cases h
      | some cs =>
        rw [hg] at h; simp at h; subst h
        obtain ⟨b, off, rfl, hF, hl, hc⟩ := he.get hg
        have hlt : i < es.length := by
          have := List.getElem?_eq_some_iff.1 hg; obtain ⟨h', _⟩ := this; omega
        have hn := he.length; subst hn
        refine ⟨.pointer (some ⟨b, off + i.toNat * k, none⟩), ?_, by simp only [Rep]; exact ⟨_, _, rfl, hF, hc⟩⟩
        unfold Instr.indexAt
        rw [run_ok run_intOf]
        simp only []
        rw [run_ok (run_under hu)]
        simp only [run_bind, run_pure, run_under hu]
        simp only [h0, hlt, and_self, if_true, run_bind, run_size hz, addr_add]; rfl
    · cases h
  · rename_i b off n' k kk i
    simp only [Rep] at hi; subst hi
    split at h
    · rename_i hk; obtain ⟨hk, h0, hlt⟩ := hk
      simp at h; subst h
      obtain ⟨e, g, hu, hz⟩ := el_under hk
      simp only [Rep] at hx
      obtain ⟨ad, cap, rfl, hcap, he⟩ := hx
      rcases he with he | ⟨rfl, he⟩
      · omega
      · refine ⟨.pointer (some ⟨b, off + i.toNat * k, none⟩), ?_, by simp only [Rep]⟩
        unfold Instr.indexAt
        rw [run_ok run_intOf]
        simp only []
        rw [run_ok (run_under hu)]
        simp only [run_bind, run_pure, run_under hu]
        simp only [h0, hlt, and_self, if_true, run_bind, run_size hz, addr_add]; rfl
    · cases h
  · rename_i b off kk i
    simp only [Rep] at hi; subst hi
    split at h
    · rename_i m g k hT
      split at h
      · rename_i hb; obtain ⟨h0, hlt⟩ := hb
        simp at h; subst h
        obtain ⟨e, hu, hz⟩ := ar_under hT
        simp only [Rep] at hx; subst hx
        refine ⟨.pointer (some ⟨b, off + i.toNat * k, none⟩), ?_, by simp only [Rep]⟩
        unfold Instr.indexAt
        rw [run_ok run_intOf]
        simp only []
        rw [run_ok (run_under hu)]
        simp only [Instr.sureAddr, run_bind, run_pure, run_under hu]
        simp only [h0, hlt, and_self, if_true, run_bind, run_size hz, addr_add]; rfl
      · cases h
    · cases h
  · rename_i cs kk i
    simp only [Rep] at hi; subst hi
    split at h
    · rename_i m g k hT
      split at h
      · rename_i hb; obtain ⟨h0, hlt⟩ := hb
        simp at h; subst h
        obtain ⟨e, hu, hz⟩ := ar_under hT
        simp only [Rep] at hx; obtain ⟨b, off, rfl, hF, hc⟩ := hx
        refine ⟨.pointer (some ⟨b, off + i.toNat * k, none⟩), ?_, by simp only [Rep]; exact ⟨_, _, rfl, hF, hc.drop _⟩⟩
        unfold Instr.indexAt
        rw [run_ok run_intOf]
        simp only []
        rw [run_ok (run_under hu)]
        simp only [Instr.sureAddr, run_bind, run_pure, run_under hu]
        simp only [h0, hlt, and_self, if_true, run_bind, run_size hz, addr_add]; rfl
      · cases h
    · cases h
  · cases h
theorem indexA_run {T : TypeId} {x i v : TV} {y j : Value} (hx : Rep w F x y) (hi : Rep w F i j) (h : indexA P T x i = some v) :
    ∃ z, (Instr.index T y j).run P w = .ok z w ∧ Rep w F v z := by
  unfold indexA at h
  split at h
  · rename_i s kk i
    simp only [Rep] at hi hx; subst hi hx
    split at h
    · rename_i hb; obtain ⟨hT, h0⟩ := hb
      split at h
      · rename_i c hc
        simp at h; subst h
        refine ⟨.int .u8 c.toNat, ?_, by simp only [Rep]⟩
        unfold Instr.index
        rw [run_ok run_intOf]
        simp only []
        rw [run_ok (run_under (str_under hT))]
        simp only [h0, if_true, hc]; rfl
      · cases h
    · cases h
  · rename_i cs kk i
    simp only [Rep] at hi; subst hi
    split at h
    · rename_i m g k hT
      split at h
      · rename_i hb; obtain ⟨h0, hlt⟩ := hb
        simp only [Rep] at hx; obtain ⟨xs, rfl, hx⟩ := hx
        obtain ⟨e, hu, hz⟩ := ar_under hT
        obtain ⟨z, h1, h2⟩ := partA_run hz hx h
        refine ⟨z, ?_, h2⟩
        unfold Instr.index
        rw [run_ok run_intOf]
        simp only []
        rw [run_ok (run_under hu)]
        simp only [h0, hlt, and_self, if_true]
        rw [run_ok (run_size hz)]
        exact h1
      · cases h
    · cases h
  · cases h
theorem extractA_run {t v : TV} {y : Value} {i : Nat} (hx : Rep w F t y) (h : extractA t i = some v) : ∃ z, (Instr.extract y i).run P w = .ok z w ∧ Rep w F v z := by
  unfold extractA at h
  split at h
  · simp only [Rep] at hx; obtain ⟨xs, rfl, hx⟩ := hx
    obtain ⟨x, h1, h2⟩ := hx.get h
    simp only [Array.getElem?_toList] at h1
    refine ⟨x, ?_, h2⟩
    unfold Instr.extract
    simp only [h1]; rfl
  · cases h
theorem lenA_run {T : TypeId} {x : TV} {y : Value} {m : Int} {ty : TypeId} (hx : Rep w F x y) (h : lenA P T x = some m) : (Builtin.len_ #[T] ty #[y]).run P w = .ok (.int .i64 m) w := by
  unfold lenA at h
  split at h
  · simp only [Rep] at hx; subst hx
    split at h
    · rename_i hT; simp at h; subst h
      unfold Builtin.len_
      simp only [List.getElem?_toArray, List.getElem?_cons_zero]
      rw [run_ok (run_under (str_under hT))]; rfl
    · cases h
  · split at h
    · rename_i hk; simp at h; subst h
      obtain ⟨k, hk⟩ := Option.isSome_iff_exists.1 hk
      obtain ⟨e, g, hu, hz⟩ := el_under hk
      simp only [Rep] at hx; obtain ⟨ad, nn, cap, rfl, hcap, he⟩ := hx
      have hn := he.length; subst hn
      unfold Builtin.len_
      simp only [List.getElem?_toArray, List.getElem?_cons_zero]
      rw [run_ok (run_under hu)]; rfl
    · cases h
  · split at h
    · rename_i hk; simp at h; subst h
      obtain ⟨k, hk⟩ := Option.isSome_iff_exists.1 hk
      obtain ⟨e, g, hu, hz⟩ := el_under hk
      simp only [Rep] at hx; obtain ⟨ad, cap, rfl, hcap, he⟩ := hx
      unfold Builtin.len_
      simp only [List.getElem?_toArray, List.getElem?_cons_zero]
      rw [run_ok (run_under hu)]; rfl
    · cases h
  · split at h
    · rename_i hk; simp at h; subst h
      obtain ⟨k, hk⟩ := Option.isSome_iff_exists.1 hk
      obtain ⟨e, g, hu, hz⟩ := el_under hk
      simp only [Rep] at hx; obtain ⟨ad, rfl⟩ := hx
      unfold Builtin.len_
      simp only [List.getElem?_toArray, List.getElem?_cons_zero]
      rw [run_ok (run_under hu)]; rfl
    · cases h
  · cases h
theorem repM_size : ∀ {ts : List (Value × TV)} {xs : List MapEntry}, RepM w F ts xs → xs.length = ts.length
  | [], xs, h => by simp only [RepM] at h; subst h; rfl
  | (k, t) :: ts, xs, h => by simp only [RepM] at h; obtain ⟨y, ys, rfl, _, _, h2⟩ := h; simp [repM_size h2]
theorem lenM_run (hh : HRel H w) {T : TypeId} {x : TV} {y : Value} {m : Int} {ty : TypeId} (hx : Rep w (Fr H w) x y) (h : lenM P H T x = some m) : (Builtin.len_ #[T] ty #[y]).run P w = .ok (.int .i64 m) w := by
  unfold lenM at h
  split at h
  · rename_i b
    split at h
    · rename_i hT
      simp only [Rep] at hx; subst hx
      unfold isMapT at hT; split at hT
      · rename_i hu
        cases hb : H b with
        | none => rw [hb] at h; cases h
        | some r =>
          rw [hb] at h
          cases r with
          | map es =>
            simp only [lenR, Option.some.injEq] at h; subst h
            obtain ⟨ms, clock, hm, hr, _⟩ := hh b _ hb
            unfold Builtin.len_
            simp only [List.getElem?_toArray, List.getElem?_cons_zero]
            rw [run_ok (run_under hu)]
            simp only []
            rw [run_ok (a := Obj.map ms clock) (w' := w) (by simp only [getObj, Sem.run, hm])]
            have := repM_size hr
            rw [Array.length_toList] at this
            rw [← this]; rfl
          | cells _ => cases h
          | strIter _ _ => cases h
          | mapB _ _ => cases h
          | exact _ => cases h
          | loop _ _ _ _ _ _ _ => cases h
      · cases hT
    · cases h
  · split at h
    · rename_i hT
      simp only [Rep] at hx; subst hx
      simp at h; subst h
      unfold isMapT at hT; split at hT
      · rename_i hu
        unfold Builtin.len_
        simp only [List.getElem?_toArray, List.getElem?_cons_zero]
        rw [run_ok (run_under hu)]; rfl
      · cases hT
    · cases h
  · exact lenA_run hx h
end
end Go.Abs
