import Derived.Test.YtephimncnnogfaaDoorMg2
import Derived.Test.YtephimncnnogfaaDoorAb23
import Derived.Test.YtephimncnnogfaaDoorAb20
/- Modules that may be loaded, told by what is in them; what becomes of them with a part more or less. No program. -/
namespace Go.Abs
set_option linter.unusedSimpArgs false
set_option linter.unusedVariables false
open Go.Proofs Go.Nm Go.Wd
set_option linter.unusedVariables false
set_option maxRecDepth 8000
theorem fi_no {α : Type} {p : α → Bool} {l : List α} : decide (0 ≤ fi p l) = false ↔ ∀ x ∈ l, p x = false :=
  ⟨fi_all, fun h => by rw [fi_none (fun j y hy => h y (List.mem_of_getElem? hy))]; rfl⟩
theorem nodup_take {α : Type} (l : List α) : l.Nodup ↔ ∀ (i : Nat) (x : α), l[i]? = some x → x ∉ l.take i := by
  unfold List.Nodup
  rw [List.pairwise_iff_getElem]
  constructor
  · intro h i x hx hm
    obtain ⟨hi, rfl⟩ := List.getElem?_eq_some_iff.1 hx
    obtain ⟨j, hj, he⟩ := List.mem_take_iff_getElem.1 hm
    exact h j i (by omega) hi (by omega) he
  · intro h i j hi hj hij he
    exact h j _ (List.getElem?_eq_getElem hj) (List.mem_take_iff_getElem.2 ⟨i, by omega, he⟩)
theorem dup_iff {l : List ByteArray} {i : Nat} {x : ByteArray} (hx : l[i]? = some x) : dup l i = false ↔ x ∉ l.take i := by
  unfold dup
  rw [hx]
  show decide (0 ≤ fi (fun y => x.toList == y.toList) (l.take i)) = false ↔ _
  rw [fi_no]
  simp only [str_eq, decide_eq_false_iff_not]
  exact ⟨fun h hm => h x hm rfl, fun h y hy e => h (e ▸ hy)⟩
theorem rep_no {l : List ByteArray} : decide (0 ≤ rep l) = false ↔ l.Nodup := by
  unfold rep
  rw [fi_no, nodup_take]
  constructor
  · intro h i x hx
    exact (dup_iff hx).1 (h i (by rw [List.mem_range]; exact (List.getElem?_eq_some_iff.1 hx).1))
  · intro h i hi
    obtain ⟨x, hx⟩ := at_ (List.mem_range.1 hi)
    exact (dup_iff hx).2 (h i x hx)
theorem badP_no {m : Mod} {i : Nat} {r : Rlc} (hr : m.re[i]? = some r) : m.badP i = false ↔ r.spot ∉ (m.re.take i).map Rlc.spot ∧ r.a < m.len r := by
  unfold Mod.badP inB
  rw [hr]
  simp only [Bool.or_eq_false_iff, decide_eq_false_iff_not]
  constructor
  · rintro ⟨h1, h2⟩; exact ⟨h1, by omega⟩
  · rintro ⟨h1, h2⟩; exact ⟨h1, by omega⟩
theorem places_no {m : Mod} : decide (0 ≤ fi m.badP (List.range m.re.length)) = false ↔ (m.re.map Rlc.spot).Nodup ∧ ∀ r ∈ m.re, r.a < m.len r := by
  rw [fi_no, nodup_take]
  constructor
  · intro h
    have h' : ∀ i r, m.re[i]? = some r → r.spot ∉ (m.re.take i).map Rlc.spot ∧ r.a < m.len r := fun i r hr => (badP_no hr).1 (h i (by rw [List.mem_range]; exact (List.getElem?_eq_some_iff.1 hr).1))
    refine ⟨fun i x hx => ?_, fun r hr => ?_⟩
    · rw [List.getElem?_map] at hx
      cases hr : m.re[i]? with
      | none => rw [hr] at hx; cases hx
      | some r => rw [hr] at hx; cases hx; rw [← List.map_take]; exact (h' i r hr).1
    · obtain ⟨i, hi⟩ := List.mem_iff_getElem?.1 hr
      exact (h' i r hi).2
  · rintro ⟨h1, h2⟩ i hi
    obtain ⟨r, hr⟩ := at_ (List.mem_range.1 hi)
    refine (badP_no hr).2 ⟨?_, h2 r (List.mem_of_getElem? hr)⟩
    rw [List.map_take]
    exact h1 i _ (by rw [List.getElem?_map, hr]; rfl)
theorem loose_no {m : Mod} : decide (0 ≤ fi m.loose (List.range m.co.length)) = false ↔ ∀ i w, m.co[i]? = some w → (dec w).o = 17 → (true, i) ∈ m.re.map Rlc.spot := by
  rw [fi_no]
  have key : ∀ i w, m.co[i]? = some w → (m.loose i = false ↔ ((dec w).o = 17 → (true, i) ∈ m.re.map Rlc.spot)) := by
    intro i w hw
    unfold Mod.loose
    rw [hw]
    show ((((dec w).o : Int) == 17) && !(inB (true, i) (m.re.map Rlc.spot))) = false ↔ _
    by_cases h : (dec w).o = 17
    · rw [h]; simp [inB]
    · have : (((dec w).o : Int) == 17) = false := by simp; omega
      rw [this]; simp [h]
  constructor
  · intro h i w hw
    exact (key i w hw).1 (h i (by rw [List.mem_range]; exact (List.getElem?_eq_some_iff.1 hw).1))
  · intro h i hi
    obtain ⟨w, hw⟩ := at_ (List.mem_range.1 hi)
    exact (key i w hw).2 (h i w hw)
/-- What stands in a module that may be loaded. -/
structure Mod.good (m : Mod) : Prop where
  lex : m.ex.length ≤ 8
  lim : m.im.length ≤ 16
  lre : m.re.length ≤ 256
  lco : m.co.length ≤ 512
  lda : m.da.length ≤ 128
  long : ∀ s ∈ m.nm :: (m.ex ++ m.im), longB s = false
  kind : ∀ r ∈ m.re, kindB r = false
  name : ∀ s ∈ m.nm :: (m.ex ++ m.im), badN s = false
  dex : m.ex.Nodup
  dim : m.im.Nodup
  co0 : 0 < m.co.length
  coE : m.ex.length ≤ m.co.length
  word : ∀ w ∈ m.co, badW w = false
  spot : (m.re.map Rlc.spot).Nodup
  plac : ∀ r ∈ m.re, r.a < m.len r
  fits : ∀ r ∈ m.re, m.fit r = true
  thrs : ∀ r ∈ m.re, m.thr r = true
  call : ∀ i w, m.co[i]? = some w → (dec w).o = 17 → (true, i) ∈ m.re.map Rlc.spot
theorem obj_no {m : Mod} : m.obj = 0 ↔ (m.ex.length ≤ 8 ∧ m.im.length ≤ 16 ∧ m.re.length ≤ 256 ∧ m.co.length ≤ 512 ∧ m.da.length ≤ 128) ∧ (∀ s ∈ m.nm :: (m.ex ++ m.im), longB s = false) ∧ ∀ r ∈ m.re, kindB r = false := by
  rw [obj_alt]
  have hbig : m.big = false ↔ (m.ex.length ≤ 8 ∧ m.im.length ≤ 16 ∧ m.re.length ≤ 256 ∧ m.co.length ≤ 512 ∧ m.da.length ≤ 128) := by
    unfold Mod.big; simp; omega
  have hlong : (longB m.nm || (decide (0 ≤ fi longB m.ex) || decide (0 ≤ fi longB m.im))) = false ↔ ∀ s ∈ m.nm :: (m.ex ++ m.im), longB s = false := by
    rw [Bool.or_eq_false_iff, Bool.or_eq_false_iff, fi_no, fi_no]
    simp only [List.forall_mem_cons, List.forall_mem_append]
  rw [← hbig, ← hlong, ← fi_no]
  cases m.big <;> cases (longB m.nm || (decide (0 ≤ fi longB m.ex) || decide (0 ≤ fi longB m.im))) <;> cases decide (0 ≤ fi kindB m.re) <;> simp
theorem nmI_no {m : Mod} : decide (0 ≤ m.nmI) = false ↔ ∀ s ∈ m.nm :: (m.ex ++ m.im), badN s = false := by
  simp only [List.forall_mem_cons, List.forall_mem_append]
  rw [← fi_no, ← fi_no]
  unfold Mod.nmI
  have x1 := fi_lt badN m.ex
  have x2 := fi_lt badN m.im
  generalize fi badN m.ex = a at *
  generalize fi badN m.im = b at *
  cases badN m.nm
  · by_cases h1 : 0 ≤ a
    · have : ¬ (1 + a < 0) := by omega
      simp [h1]; omega
    · by_cases h2 : 0 ≤ b
      · simp [h1, h2]; omega
      · simp [h1, h2]
  · simp
theorem twI_no {m : Mod} (h : m.im.length ≤ 16) : decide (0 ≤ m.twI) = false ↔ m.ex.Nodup ∧ m.im.Nodup := by
  rw [← rep_no, ← rep_no]
  have x4 := fi_lt (dup m.im) (List.range m.im.length)
  rw [List.length_range] at x4
  have w2 : IntKind.i64.wrap (8 + rep m.im) = 8 + rep m.im := by unfold rep; exact wi64 (by omega) (by omega)
  unfold Mod.twI
  rw [w2]
  by_cases h1 : 0 ≤ rep m.ex
  · simp [h1]
  · by_cases h2 : 0 ≤ rep m.im
    · simp [h1, h2]; omega
    · simp [h1, h2]
theorem good_iff {m : Mod} : m.fine ↔ m.good := by
  constructor
  · intro h
    obtain ⟨⟨l1, l2, l3, l4, l5⟩, o2, o3⟩ := obj_no.1 h.obj
    obtain ⟨t1, t2⟩ := (twI_no l2).1 h.tws
    obtain ⟨p1, p2⟩ := places_no.1 h.pls
    have c0 := h.co0
    have cE := h.coE
    exact ⟨l1, l2, l3, l4, l5, o2, o3, nmI_no.1 h.nms, t1, t2, by simp at c0; exact List.length_pos_iff.2 c0, by simp at cE; omega, fi_no.1 h.wds, p1, p2, fun r hr => by simpa using fi_no.1 h.fts r hr, fun r hr => by simpa using fi_no.1 h.ths r hr, loose_no.1 h.lse⟩
  · intro h
    exact ⟨obj_no.2 ⟨⟨h.lex, h.lim, h.lre, h.lco, h.lda⟩, h.long, h.kind⟩, nmI_no.2 h.name, (twI_no h.lim).2 ⟨h.dex, h.dim⟩, by have := h.co0; simp; exact List.length_pos_iff.1 this, by have := h.coE; simp; omega, fi_no.2 h.word, places_no.2 ⟨h.spot, h.plac⟩, fi_no.2 (fun r hr => by simpa using h.fits r hr), fi_no.2 (fun r hr => by simpa using h.thrs r hr), loose_no.2 h.call⟩
/-- What is told first. -/
theorem flt_obj {m : Mod} (h : m.obj ≠ 0) : m.flt.1 = 1 := by
  rw [flt_eq, if_pos (by simpa using h)]
theorem flt_nm {m : Mod} (h : m.obj = 0) {i : Int} (hn : m.nmI = i) (h0 : 0 ≤ i) : m.flt = (2, i) := by
  rw [flt_eq, h, hn, if_neg (by decide), if_pos (by simpa using h0)]
theorem flt_tw {m : Mod} (h : m.obj = 0) (hn : ∀ s ∈ m.nm :: (m.ex ++ m.im), badN s = false) {i : Int} (ht : m.twI = i) (h0 : 0 ≤ i) : m.flt = (3, i) := by
  rw [flt_eq, h, ht, if_neg (by decide), nmI_no.2 hn, if_neg (by decide), if_pos (by simpa using h0)]
theorem flt_good {m : Mod} (h : m.good) : m.flt.1 = 0 := fine_iff.1 (good_iff.2 h)
theorem chk_good {m : Mod} (h : m.good) : m.chk = 0 := fine_chk (good_iff.2 h)
theorem chk_bad20 {m : Mod} (h : m.flt.1 ≠ 0) : m.chk = 20 := by unfold Mod.chk; rw [if_pos (by simpa using h)]
theorem getD_app {l n : List Nat} {i : Nat} (h : i < l.length) : (l ++ n).getD i 0 = l.getD i 0 := by simp [List.getD_eq_getElem?_getD, List.getElem?_append_left h]
theorem fit_congr {m n : Mod} {r : Rlc} (h1 : r.spot.1 = true → n.co.getD r.a 0 = m.co.getD r.a 0) (h2 : r.spot.1 = false → n.da.getD r.a 0 = m.da.getD r.a 0) : n.fit r = m.fit r := by
  unfold Mod.fit
  cases q : r.spot.1 with
  | true => rw [h1 q, if_pos rfl, if_pos rfl]
  | false => rw [h2 q, if_neg (by decide), if_neg (by decide)]
theorem badW0 : badW 0 = false := by kernel_rfl
theorem dec0 : (dec 0).o = 0 := by kernel_rfl
/-- A word of code more, nothing but a halt. -/
theorem good_code {m : Mod} (h : m.good) (hl : m.co.length < 512) : ({ m with co := m.co ++ [0] } : Mod).good where
  lex := h.lex
  lim := h.lim
  lre := h.lre
  lco := by simp; omega
  lda := h.lda
  long := h.long
  kind := h.kind
  name := h.name
  dex := h.dex
  dim := h.dim
  co0 := by simp
  coE := by have := h.coE; simp; omega
  word := fun w hw => by
    rcases List.mem_append.1 hw with hw | hw
    · exact h.word w hw
    · rw [List.mem_singleton.1 hw]; exact badW0
  spot := h.spot
  plac := fun r hr => by
    have := h.plac r hr
    unfold Mod.len at this ⊢
    simp only [List.length_append, List.length_singleton]
    split <;> rename_i q <;> simp only [q, if_true, if_false, Bool.false_eq_true] at this <;> omega
  fits := fun r hr => by
    have h1 := h.plac r hr
    unfold Mod.len at h1
    exact (fit_congr (m := m) (n := { m with co := m.co ++ [0] }) (fun q => by rw [q, if_pos rfl] at h1; exact getD_app h1) (fun _ => rfl)).trans (h.fits r hr)
  thrs := fun r hr => by
    have := h.thrs r hr
    unfold Mod.thr at this ⊢
    simp only [List.length_append, List.length_singleton]
    split <;> rename_i q
    · rw [if_pos q] at this; exact this
    · rw [if_neg q] at this
      split <;> rename_i q2
      · rw [if_pos q2] at this; exact this
      · rw [if_neg q2] at this; simp at this ⊢; omega
  call := fun i w hw ho => by
    by_cases hi : i < m.co.length
    · rw [show (({ m with co := m.co ++ [0] } : Mod).co) = m.co ++ [0] from rfl, List.getElem?_append_left hi] at hw
      exact h.call i w hw ho
    · rw [show (({ m with co := m.co ++ [0] } : Mod).co) = m.co ++ [0] from rfl, List.getElem?_append_right (by omega)] at hw
      have : w = 0 := by
        have := List.mem_of_getElem? hw
        simpa using this
      subst this
      exact absurd ho (by rw [dec0]; decide)
def impK (r : Rlc) : Bool := ((r.k : Int) == 0) || (((r.k : Int) == 1) || ((r.k : Int) == 4))
/-- The last import less. -/
theorem good_less {m : Mod} (h : m.good) {pre : List ByteArray} {x : ByteArray} (him : m.im = pre ++ [x]) (hno : ∀ r ∈ m.re, impK r = true → r.w ≠ pre.length) : ({ m with im := pre } : Mod).good where
  lex := h.lex
  lim := by have := h.lim; rw [him] at this; simp at this ⊢; omega
  lre := h.lre
  lco := h.lco
  lda := h.lda
  long := fun s hs => h.long s (by
    rw [him]; simp only [List.mem_cons, List.mem_append] at hs ⊢; rcases hs with hs | hs | hs
    · exact .inl hs
    · exact .inr (.inl hs)
    · exact .inr (.inr (.inl hs)))
  kind := h.kind
  name := fun s hs => h.name s (by
    rw [him]; simp only [List.mem_cons, List.mem_append] at hs ⊢; rcases hs with hs | hs | hs
    · exact .inl hs
    · exact .inr (.inl hs)
    · exact .inr (.inr (.inl hs)))
  dex := h.dex
  dim := by have := h.dim; rw [him] at this; exact (List.nodup_append.1 this).1
  co0 := h.co0
  coE := h.coE
  word := h.word
  spot := h.spot
  plac := h.plac
  fits := h.fits
  thrs := fun r hr => by
    have h1 := h.thrs r hr
    have h2 := hno r hr
    unfold Mod.thr at h1 ⊢
    unfold impK at h2
    simp only []
    rw [him] at h1
    split <;> rename_i q
    · rw [if_pos q] at h1
      have := h2 q
      simp at h1 ⊢; omega
    · rw [if_neg q] at h1; exact h1
  call := h.call
/-- An import more. -/
theorem good_more {m : Mod} (h : m.good) {x : ByteArray} (hl : m.im.length < 16) (h1 : longB x = false) (h2 : badN x = false) (h3 : x ∉ m.im) : ({ m with im := m.im ++ [x] } : Mod).good where
  lex := h.lex
  lim := by simp; omega
  lre := h.lre
  lco := h.lco
  lda := h.lda
  long := fun s hs => by
    simp only [List.mem_cons, List.mem_append, List.not_mem_nil, or_false] at hs
    rcases hs with hs | hs | hs | hs
    · exact h.long s (by simp [hs])
    · exact h.long s (by simp [hs])
    · exact h.long s (by simp [hs])
    · rw [hs]; exact h1
  kind := h.kind
  name := fun s hs => by
    simp only [List.mem_cons, List.mem_append, List.not_mem_nil, or_false] at hs
    rcases hs with hs | hs | hs | hs
    · exact h.name s (by simp [hs])
    · exact h.name s (by simp [hs])
    · exact h.name s (by simp [hs])
    · rw [hs]; exact h2
  dex := h.dex
  dim := by
    refine List.nodup_append.2 ⟨h.dim, by simp, fun a ha b hb => ?_⟩
    rw [List.mem_singleton.1 hb]
    exact fun e => h3 (e ▸ ha)
  co0 := h.co0
  coE := h.coE
  word := h.word
  spot := h.spot
  plac := h.plac
  fits := h.fits
  thrs := fun r hr => by
    have h1 := h.thrs r hr
    unfold Mod.thr at h1 ⊢
    simp only [List.length_append, List.length_singleton]
    split <;> rename_i q
    · rw [if_pos q] at h1
      simp at h1 ⊢; omega
    · rw [if_neg q] at h1; exact h1
  call := h.call
/-- A word of data more. -/
theorem good_data {m : Mod} (h : m.good) (hl : m.da.length < 128) : ({ m with da := m.da ++ [7] } : Mod).good where
  lex := h.lex
  lim := h.lim
  lre := h.lre
  lco := h.lco
  lda := by simp; omega
  long := h.long
  kind := h.kind
  name := h.name
  dex := h.dex
  dim := h.dim
  co0 := h.co0
  coE := h.coE
  word := h.word
  spot := h.spot
  plac := fun r hr => by
    have := h.plac r hr
    unfold Mod.len at this ⊢
    simp only [List.length_append, List.length_singleton]
    split <;> rename_i q <;> simp only [q, if_true, if_false, Bool.false_eq_true] at this <;> omega
  fits := fun r hr => by
    have h1 := h.plac r hr
    unfold Mod.len at h1
    exact (fit_congr (m := m) (n := { m with da := m.da ++ [7] }) (fun _ => rfl) (fun q => by rw [q, if_neg (by decide)] at h1; exact getD_app h1)).trans (h.fits r hr)
  thrs := fun r hr => by
    have := h.thrs r hr
    unfold Mod.thr at this ⊢
    simp only [List.length_append, List.length_singleton]
    split <;> rename_i q
    · rw [if_pos q] at this; exact this
    · rw [if_neg q] at this
      split <;> rename_i q2
      · rw [if_pos q2] at this; simp at this ⊢; omega
      · rw [if_neg q2] at this; exact this
  call := h.call
theorem data_chk {m : Mod} (h : m.good) : (({ m with da := m.da ++ [7] } : Mod).chk == 0) = decide ((m.da.length : Int) < 128) := by
  by_cases hl : m.da.length < 128
  · rw [chk_good (good_data h hl), decide_eq_true (by omega)]; rfl
  · rw [chk_bad20 (by
      rw [flt_obj fun e => ?_]; decide
      have := (obj_no.1 e).1.2.2.2.2
      simp at this; omega), decide_eq_false (by omega)]; rfl
section more
variable {m : Mod} (h : m.good) {x : ByteArray}
theorem more_big (hx : ((m.im.length : Int) == 16) = true ∨ longB x = true) : ({ m with im := m.im ++ [x] } : Mod).flt.1 = 1 := by
  refine flt_obj fun e => ?_
  obtain ⟨⟨_, l, _⟩, l2, _⟩ := obj_no.1 e
  rcases hx with hx | hx
  · simp at l hx; omega
  · rw [l2 x (by simp)] at hx; cases hx
include h
theorem more_obj (hl : ((m.im.length : Int) == 16) = false) (h1 : longB x = false) : ({ m with im := m.im ++ [x] } : Mod).obj = 0 := by
  refine obj_no.2 ⟨⟨h.lex, ?_, h.lre, h.lco, h.lda⟩, fun s hs => ?_, h.kind⟩
  · have := h.lim; simp at hl ⊢; omega
  · simp only [List.mem_cons, List.mem_append, List.not_mem_nil, or_false] at hs
    rcases hs with hs | hs | hs | hs
    · exact h.long s (by simp [hs])
    · exact h.long s (by simp [hs])
    · exact h.long s (by simp [hs])
    · rw [hs]; exact h1
theorem more_name (hl : ((m.im.length : Int) == 16) = false) (h1 : longB x = false) (h2 : badN x = true) : ({ m with im := m.im ++ [x] } : Mod).flt = (2, 9 + (m.im.length : Int)) := by
  refine flt_nm (more_obj h hl h1) ?_ (by omega)
  unfold Mod.nmI
  have e1 : badN m.nm = false := h.name _ (by simp)
  have e2 : decide (0 ≤ fi badN m.ex) = false := fi_no.2 fun s hs => h.name s (by simp [hs])
  have e3 : fi badN (m.im ++ [x]) = m.im.length := fi_some (i := m.im.length) (x := x) (by simp) h2 fun j y hj hy => by
    rw [List.getElem?_append_left hj] at hy
    exact h.name y (by simp [List.mem_of_getElem? hy])
  simp only [e1, e2, e3, Bool.false_eq_true, if_false]
  rw [if_pos (by simp)]
theorem more_twice (hl : ((m.im.length : Int) == 16) = false) (h1 : longB x = false) (h2 : x ∈ m.im) : ({ m with im := m.im ++ [x] } : Mod).flt = (3, 8 + (m.im.length : Int)) := by
  refine flt_tw (more_obj h hl h1) (fun s hs => ?_) ?_ (by omega)
  · simp only [List.mem_cons, List.mem_append, List.not_mem_nil, or_false] at hs
    rcases hs with hs | hs | hs | hs
    · exact h.name s (by simp [hs])
    · exact h.name s (by simp [hs])
    · exact h.name s (by simp [hs])
    · exact h.name s (by simp [hs, h2])
  · unfold Mod.twI
    have e1 : decide (0 ≤ rep m.ex) = false := rep_no.2 h.dex
    have e3 : rep (m.im ++ [x]) = m.im.length := rep_some (by simp) (by
      cases q : dup (m.im ++ [x]) m.im.length with
      | true => rfl
      | false => exact absurd (by simpa using h2) ((dup_iff (x := x) (by simp)).1 q)) fun j y hj hy => by
        rw [List.getElem?_range (by simp; omega)] at hy
        cases hy
        have : m.im[j]? = some (m.im[j]'hj) := List.getElem?_eq_getElem hj
        refine (dup_iff (x := m.im[j]'hj) (by rw [List.getElem?_append_left hj, this])).2 ?_
        rw [List.take_append_of_le_length (by omega)]
        exact (nodup_take m.im).1 h.dim j _ this
    have hlim := h.lim
    simp only [e1, e3, Bool.false_eq_true, if_false]
    rw [if_pos (by simp), wi64 (by omega) (by omega)]
end more
/-- Whatever is named twice. -/
theorem twice_ex {m : Mod} (h : m.good) {x : ByteArray} (hx : x ∈ m.ex) : ({ m with ex := m.ex ++ [x] } : Mod).flt.1 = 1 ∨ ({ m with ex := m.ex ++ [x] } : Mod).flt.1 = 3 := by
  by_cases ho : ({ m with ex := m.ex ++ [x] } : Mod).obj = 0
  · right
    have ht : ¬ (decide (0 ≤ ({ m with ex := m.ex ++ [x] } : Mod).twI) = false) := fun e => by
      have := ((twI_no (m := { m with ex := m.ex ++ [x] }) h.lim).1 e).1
      exact (List.nodup_append.1 this).2.2 x hx x (by simp) rfl
    have := flt_tw ho (fun s hs => by
      simp only [List.mem_cons, List.mem_append, List.not_mem_nil, or_false] at hs
      rcases hs with hs | (hs | hs) | hs
      · exact h.name s (by simp [hs])
      · exact h.name s (by simp [hs])
      · exact h.name s (by simp [hs, hx])
      · exact h.name s (by simp [hs])) rfl (by simpa using ht)
    rw [this]
  · exact .inl (flt_obj ho)
theorem twice_im {m : Mod} (h : m.good) {x : ByteArray} (hx : x ∈ m.im) : ({ m with im := m.im ++ [x] } : Mod).flt.1 = 1 ∨ ({ m with im := m.im ++ [x] } : Mod).flt.1 = 3 := by
  cases hl : ((m.im.length : Int) == 16) with
  | true => exact .inl (more_big (.inl hl))
  | false => rw [more_twice h hl (h.long x (by simp [hx])) hx]; exact .inr rfl
theorem twice_re {m : Mod} (h : m.good) {r : Rlc} (hr : r ∈ m.re) : ({ m with re := m.re ++ [r] } : Mod).flt.1 = 1 ∨ ({ m with re := m.re ++ [r] } : Mod).flt.1 = 6 := by
  by_cases ho : ({ m with re := m.re ++ [r] } : Mod).obj = 0
  · right
    have hp : ¬ (decide (0 ≤ fi ({ m with re := m.re ++ [r] } : Mod).badP (List.range (m.re ++ [r]).length)) = false) := fun e => by
      have := (places_no (m := { m with re := m.re ++ [r] }).1 e).1
      rw [show (({ m with re := m.re ++ [r] } : Mod).re) = m.re ++ [r] from rfl, List.map_append] at this
      exact (List.nodup_append.1 this).2.2 r.spot (List.mem_map_of_mem hr) r.spot (by simp) rfl
    have f := good_iff.2 h
    rw [flt_eq, ho, if_neg (by decide), (nmI_no (m := { m with re := m.re ++ [r] })).2 h.name, if_neg (by decide), (twI_no (m := { m with re := m.re ++ [r] }) h.lim).2 ⟨h.dex, h.dim⟩, if_neg (by decide)]
    simp only [f.co0, f.coE, Bool.or_false, Bool.false_eq_true, if_false]
    rw [show decide (0 ≤ fi badW m.co) = false from f.wds, if_neg (by decide), if_pos (by simpa using hp)]
  · exact .inl (flt_obj ho)
theorem k014 (r : Rlc) : (impK r = true ∧ (((r.k : Int) == 0) = true ∨ (((r.k : Int) == 0) = false ∧ ((r.k : Int) == 1) = true) ∨ (((r.k : Int) == 0) = false ∧ ((r.k : Int) == 1) = false ∧ ((r.k : Int) == 4) = true))) ∨ (impK r = false ∧ ((r.k : Int) == 0) = false ∧ ((r.k : Int) == 1) = false ∧ ((r.k : Int) == 4) = false) := by
  unfold impK
  cases ((r.k : Int) == 0) <;> cases ((r.k : Int) == 1) <;> cases ((r.k : Int) == 4) <;> simp
end Go.Abs
/- What modules export: what the program's functions make. -/
namespace Go.Abs
set_option linter.unusedSimpArgs false
set_option linter.unusedVariables false
set_option maxHeartbeats 4000000
open Go.Proofs Go.Nm Go.Wd
set_option linter.unusedVariables false
set_option maxRecDepth 8000
variable {H : Heap}
def strV (s : ByteArray) : Value := .string s
theorem eqStr (a b : ByteArray) : eqTV Tryd.prog 9 9 (.s (.string a)) (.s (.string b)) = some (a.toList == b.toList) := by kernel_rfl
theorem rep_strV (w : World) (F : Nat → Prop) (s : ByteArray) : Rep w F (.s (.string s)) (strV s) := by simp only [Rep, strV]
theorem ba_beq (a b : ByteArray) : (a == b) = decide (a = b) := by
  obtain ⟨x⟩ := a
  obtain ⟨y⟩ := b
  show (x == y) = _
  by_cases h : x = y
  · subst h; simp
  · rw [decide_eq_false (fun e => h (ByteArray.mk.inj e))]; simpa using h
theorem strK : KeyP Tryd.prog 9 strV where
  eq := fun w a b => by
    have h := eqTV_run (P := Tryd.prog) (w := w) (F := fun _ => True) (d' := 9991) (eqStr a b) (rep_strV w _ a) (rep_strV w _ b)
    rw [str_eq] at h
    exact h
  chk := fun w e a => rfl
  under := ⟨_, rfl, fun a b => .inr (by rw [← ba_beq]; rfl)⟩
  same := fun a => by simp [Instr.sameBits, strV, ba_beq]
/-- A name that a module exports. -/
structure Ent where
  nm : ByteArray
  md : ByteArray
  gt : Int
  ix : Int
  rf : Int
  deriving DecidableEq
def Ent.enc (e : Ent) : List TV := [.s (.string e.nm), .s (.string e.md), .s (.int .i64 e.gt), .s (.int .i64 e.ix), .s (.int .i64 e.rf)]
theorem Ent.enc_def (e : Ent) : e.enc = [.s (.string e.nm), .s (.string e.md), .s (.int .i64 e.gt), .s (.int .i64 e.ix), .s (.int .i64 e.rf)] := rfl
@[go_sem] theorem ent_len (e : Ent) : e.enc.length = 5 := id rfl
@[go_sem] theorem ent_one (e : Ent) : e.enc.all oneT = true := id rfl
@[go_sem] theorem ent_take (e : Ent) : e.enc.take 5 = e.enc := id rfl
@[go_sem] theorem ent_drop (e : Ent) : e.enc.drop 0 = e.enc := id rfl
def Ent.zero : Ent := ⟨ByteArray.empty, ByteArray.empty, 0, 0, 0⟩
/-- A table: its modules, its entries by name. -/
structure Sym where
  mods : List ByteArray
  ents : List (ByteArray × Ent)
def entR (l : List (ByteArray × Ent)) : Root := mapR strV (l.map fun p => (p.1, .agg p.2.enc))
theorem lenR_entR (l : List (ByteArray × Ent)) : lenR (some (entR l)) = some (l.length : Int) := by unfold entR; rw [lenR_mapR, List.length_map]
structure SymAt (H : Heap) (t mb eb : Nat) (S : Sym) : Prop where
  tab : H t = some (.cells [.s (.map (some mb)), .s (.map (some eb))])
  mod : H mb = some (setR strV S.mods)
  ent : H eb = some (entR S.ents)
def getE (k : ByteArray) : List (ByteArray × Ent) → Option Ent
  | [] => none
  | (a, e) :: l => if k = a then some e else getE k l
theorem getK_ent (k : ByteArray) : ∀ l : List (ByteArray × Ent), getK k (l.map fun p => (p.1, TV.agg p.2.enc)) = (getE k l).map fun e => .agg e.enc
  | [] => rfl
  | (a, e) :: l => by
    simp only [List.map_cons, getK, getE]
    by_cases h : k = a
    · rw [if_pos h, if_pos h]; rfl
    · rw [if_neg h, if_neg h]; exact getK_ent k l
theorem oc_ent {d : Option Tmp} {ty : TypeId} {pos : String} {aft : Array Edge} {g : Option (Nat × Bool)} {s x : Operand} {eb : Nat} {l : List (ByteArray × Ent)} (hm : H eb = some (entR l)) {k : ByteArray} {q : Bool} {o : Ent} (hq : (getE k l).isSome = q) (ho : (getE k l).getD Ent.zero = o) :
    OC Tryd.prog ⟨d, .lookup 56 s x true, ty, pos, aft, g⟩ [.s (.map (some eb)), .s (.string k)] H (fun r H' => r = .tup [.agg o.enc, .s (.bool q)] ∧ H' = H) := by
  have h := oc_lookup (d := d) (ty := ty) (pos := pos) (aft := aft) (g := g) (s := s) (x := x) (c := true) strK um56 zt33 hm (k := k) (kT := .s (.string k)) rep_s
  rw [getK_ent] at h
  refine OC.mono h fun r H' hr => ⟨hr.1.trans ?_, hr.2⟩
  subst hq ho
  cases getE k l <;> rfl
theorem newS_c (H : Heap) : AC Tryd.prog 9 [] H (fun r H' => ∃ t mb eb, r = .s (.pointer (some ⟨t, 0, none⟩)) ∧ H t = none ∧ H mb = none ∧ H eb = none ∧ t ≠ mb ∧ t ≠ eb ∧ mb ≠ eb ∧ H' = upd (upd (upd H mb (setR strV [])) eb (entR [])) t (.cells [.s (.map (some mb)), .s (.map (some eb))])) := by
  refine AC.body Tryd.func9 rfl rfl (n := 5) (res := [.tmp 0]) rfl rfl (by simp) ?_
  simp only [ent]
  (repeat' (first | refine wk ?_ | refine wk2 ?_ ?_ | with_reducible refine wkF fun _ _ _ => ?_ | with_reducible intro _ | refine Doing.fresh (oc_makeSet strV) fun _ _ _ => ?_ | exact ag | fail))
  rename_i mb hm hmn eb he hen t ht htn
  have g2 := Sub.gone (H := H) (Sub.upd (Sub.refl H) hm) he
  have g3 := Sub.gone (H := H) (Sub.upd (Sub.upd (Sub.refl H) hm) g2) ht
  have n1 : eb ≠ t := none_at ht (upd_self _ _ _)
  have n2 : mb ≠ eb := none_at he (upd_self _ _ _)
  have n3 : mb ≠ t := none_at ht (r := setR strV []) (by rw [upd_eq, if_neg n2]; exact upd_self _ _ _)
  refine fin1 ⟨t, mb, eb, ?_, g3, hm, g2, n3.symm, n1.symm, n2, rfl⟩
  rfl
theorem there_s {t mb eb : Nat} {S : Sym} (hS : SymAt H t mb eb S) (k : ByteArray) : AC Tryd.prog 27 [.s (.pointer (some ⟨t, 0, none⟩)), .s (.string k)] H (fun r H' => r = .s (.bool (getE k S.ents).isSome) ∧ H' = H) := by
  refine AC.body Tryd.func27 rfl rfl (n := 17) (res := [.tmp 4]) rfl rfl (by simp) ?_
  simp only [ent]
  obtain ⟨h1, h2, h3⟩ := hS
  (repeat' (first | refine wk ?_ | refine wk2 ?_ ?_ | with_reducible refine wkF fun _ _ _ => ?_ | with_reducible intro _ | refine Doing.eq (oc_ent (l := S.ents) (ag) rfl rfl) ?_ | exact ag | fail))
  exact fin0
theorem find_s {t mb eb : Nat} {S : Sym} (hS : SymAt H t mb eb S) (k : ByteArray) : AC Tryd.prog 18 [.s (.pointer (some ⟨t, 0, none⟩)), .s (.string k)] H (fun r H' => r = .tup [.agg ((getE k S.ents).getD Ent.zero).enc, .s (.int .i64 (if (getE k S.ents).isSome then 0 else 8))] ∧ H' = H) := by
  refine AC.body Tryd.func18 rfl rfl (n := 24) (res := [.cell 4 33, .tmp 5]) rfl rfl (by simp) ?_
  simp only [ent]
  obtain ⟨h1, h2, h3⟩ := hS
  have z : Ent.zero.enc = [.s (.string ByteArray.empty), .s (.string ByteArray.empty), .s (.int .i64 0), .s (.int .i64 0), .s (.int .i64 0)] := rfl
  cases hg : getE k S.ents with
  | none =>
    have q1 : (getE k S.ents).isSome = false := by rw [hg]; rfl
    have q2 : (getE k S.ents).getD Ent.zero = Ent.zero := by rw [hg]; rfl
    simp only [Option.isSome_none, Option.getD_none, Bool.false_eq_true, if_false, z]
    clear hg
    (repeat' (first | refine wk ?_ | refine wk2 ?_ ?_ | with_reducible refine wkF fun _ _ _ => ?_ | with_reducible intro _ | refine Doing.eq (oc_ent (l := S.ents) (ag) q1 q2) ?_ | exact ag | fail))
    exact fin0
  | some e =>
    have q1 : (getE k S.ents).isSome = true := by rw [hg]; rfl
    have q2 : (getE k S.ents).getD Ent.zero = e := by rw [hg]; rfl
    simp only [Option.isSome_some, Option.getD_some, if_true]
    clear hg
    (repeat' (first | refine wk ?_ | refine wk2 ?_ ?_ | with_reducible refine wkF fun _ _ _ => ?_ | with_reducible intro _ | refine Doing.eq (oc_ent (l := S.ents) (ag) q1 q2) ?_ | exact ag | fail))
    exact fin0
def Ent.slot (e : Ent) : Int := IntKind.u32.wrap (IntKind.i64.wrap (IntKind.i64.wrap (e.gt * 8) + e.ix))
theorem slot_c (e : Ent) (H : Heap) : AC Tryd.prog 12 [.agg e.enc] H (fun r H' => r = .s (.int .u32 e.slot) ∧ H' = H) := by
  refine AC.body Tryd.func12 rfl rfl (n := 10) (res := [.tmp 2]) rfl rfl (by simp) ?_
  simp only [ent]
  simp only [Ent.enc_def]
  (repeat' (first | refine wk ?_ | refine wk2 ?_ ?_ | with_reducible refine wkF fun _ _ _ => ?_ | with_reducible intro _ | exact ag | fail))
  exact fin0
end Go.Abs
/- What modules export: a module is added. -/
namespace Go.Abs
set_option linter.unusedSimpArgs false
set_option linter.unusedVariables false
set_option maxHeartbeats 4000000
open Go.Proofs Go.Nm Go.Wd
set_option linter.unusedVariables false
set_option maxRecDepth 8000
variable {H : Heap}
theorem ixfSB_c (L : List ByteArray) (hL : L.length < 4611686018427387904) (g : FuncId) (q : TV) (p : ByteArray → Bool) (H : Heap)
    (hp : ∀ x : ByteArray, x ∈ L → AC Tryd.prog g ([q] ++ [.s (.string x)] ++ []) H (fun r H' => r = .s (.bool (p x)) ∧ H' = H)) :
    AC Tryd.prog 44 [.vs 1 (L.map s1), .clo (.func g) [q] []] H (fun r H' => r = .s (.int .i64 (fi p L)) ∧ H' = H) := by
  refine AC.body Tryd.func44 rfl rfl (n := 19) (res := [.tmp 4]) rfl rfl (by simp) ?_
  simp only [ent]
  (repeat' (first | refine wk ?_ | refine wk2 ?_ ?_ | with_reducible refine wkF fun _ _ _ => ?_ | with_reducible intro _ | exact ag | fail))
  refine ARun.rounds (fun i : Nat => ⟨[(0, .vs 1 (L.map s1)), (1, .clo (.func g) [q] []), (7, .s (.int .i64 L.length)), (8, .s (.int .i64 i))], H⟩) (fun i => L.length - i) (fun i => i ≤ L.length ∧ noneB p L i) ?_ 0 ⟨by omega, .zero⟩ ?_
  · rintro i ⟨hi, hno⟩ next
    replace hno := later hno
    by_cases hlt : i < L.length
    · have h1 : (i : Int) < L.length := by omega
      have h2 : (0 : Int) ≤ i := by omega
      obtain ⟨x, hx⟩ := at_ hlt
      have hx1 := vget s1 hx
      have ha := hp x (List.mem_of_getElem? hx)
      simp only [List.nil_append, List.cons_append, List.append_nil] at ha
      have hw := w64s (i := i) (by omega)
      simp only [s1_def] at hx1 ha
      replace hp := later hp
      cases hpx : p x with
      | true =>
        rw [hpx] at ha
        rw [fi_some hx hpx hno.go]
        clear hx next
        (repeat' (first | refine wk ?_ | refine wk2 ?_ ?_ | with_reducible refine wkF fun _ _ _ => ?_ | with_reducible intro _ | refine Calling.eq (ha) ?_ | exact ag | fail))
        exact fin0
      | false =>
        rw [hpx] at ha
        replace hx := later hx
        (repeat' (first | refine wk ?_ | refine wk2 ?_ ?_ | with_reducible refine wkF fun _ _ _ => ?_ | with_reducible intro _ | refine Calling.eq (ha) ?_ | exact ag | fail))
        exact ARun.weaken (next.go (i + 1) ⟨by omega, hno.go.succ hx.go hpx⟩ (by omega)) (leK (Sub.refl _))
    · have h1 : decide ((i : Int) < L.length) = false := by simp; omega
      rw [fi_end (by omega) hno.go]
      clear next hp
      (repeat' (first | refine wk ?_ | refine wk2 ?_ ?_ | with_reducible refine wkF fun _ _ _ => ?_ | with_reducible intro _ | exact ag | fail))
      exact fin0
  · exact leK (Sub.refl _)

theorem cofSB_c (L : List ByteArray) (hL : L.length < 4611686018427387904) (g : FuncId) (q : TV) (p : ByteArray → Bool) (H : Heap)
    (hp : ∀ x : ByteArray, x ∈ L → AC Tryd.prog g ([q] ++ [.s (.string x)] ++ []) H (fun r H' => r = .s (.bool (p x)) ∧ H' = H)) :
    AC Tryd.prog 26 [.vs 1 (L.map s1), .clo (.func g) [q] []] H (fun r H' => r = .s (.bool (decide (0 ≤ fi p L))) ∧ H' = H) := by
  refine AC.body Tryd.func26 rfl rfl (n := 9) (res := [.tmp 4]) rfl rfl (by simp) ?_
  simp only [ent]
  have I := ixfSB_c L hL g q p H hp
  clear hp
  (repeat' (first | refine wk ?_ | refine wk2 ?_ ?_ | with_reducible refine wkF fun _ _ _ => ?_ | with_reducible intro _ | refine Calling.eq (I) ?_ | exact ag | fail))
  exact fin0

def addK {α : Type} [DecidableEq α] (ks : List α) (k : α) : List α := if k ∈ ks then ks else ks ++ [k]
def setOf {α : Type} [DecidableEq α] (l : List α) : List α := l.foldl addK []
theorem setOf_snoc {l : List ByteArray} {i : Nat} {x : ByteArray} (h : l[i]? = some x) : setOf (l.take (i + 1)) = addK (setOf (l.take i)) x := by
  unfold setOf; rw [List.take_add_one, h, Option.toList_some, List.foldl_append]; rfl
theorem badS_c {G : Heap} (g : GH G) (hs : Sub G H) {s : ByteArray} (hf : fits s) : AC Tryd.prog 24 [.s (.string s)] H (fun r H' => r = .s (.bool (badN s)) ∧ H' = H) := by
  refine AC.body Tryd.func24 rfl rfl (n := 6) (res := [.tmp 2]) rfl rfl (by simp) ?_
  simp only [ent]
  have C := check_c g hs hf
  unfold badN
  clear hf g hs
  (repeat' (first | refine wk ?_ | refine wk2 ?_ ?_ | with_reducible refine wkF fun _ _ _ => ?_ | with_reducible intro _ | refine Calling.eq (C) ?_ | exact ag | fail))
  exact fin0
/-- The entries of a module's first exports. -/
def entsOf (md : ByteArray) (gt : Int) (l : List ByteArray) : List (ByteArray × Ent) := l.zipIdx.map fun p => (p.1, ⟨p.1, md, gt, (p.2 : Nat), 0⟩)
theorem entsOf_snoc {md : ByteArray} {gt : Int} {l : List ByteArray} {i : Nat} {x : ByteArray} (h : l[i]? = some x) : entsOf md gt (l.take (i + 1)) = entsOf md gt (l.take i) ++ [(x, ⟨x, md, gt, (i : Nat), 0⟩)] := by
  have hi : i < l.length := (List.getElem?_eq_some_iff.1 h).1
  unfold entsOf
  rw [List.take_add_one, h, Option.toList_some, List.zipIdx_append, List.map_append]
  simp; omega
def putE (k : ByteArray) (e : Ent) : List (ByteArray × Ent) → List (ByteArray × Ent)
  | [] => [(k, e)]
  | (a, u) :: l => if k = a then (k, e) :: l else (a, u) :: putE k e l
theorem putK_ent (k : ByteArray) (e : Ent) : ∀ l : List (ByteArray × Ent), putK k (TV.agg e.enc) (l.map fun p => (p.1, TV.agg p.2.enc)) = (putE k e l).map fun p => (p.1, TV.agg p.2.enc)
  | [] => rfl
  | (a, u) :: l => by
    simp only [List.map_cons, putK, putE]
    by_cases h : k = a
    · rw [if_pos h, if_pos h]; rfl
    · rw [if_neg h, if_neg h, putK_ent k e l]; rfl
theorem putE_new {k : ByteArray} {e : Ent} : ∀ {l : List (ByteArray × Ent)}, (getE k l).isSome = false → putE k e l = l ++ [(k, e)]
  | [], _ => rfl
  | (a, u) :: l, h => by
    unfold getE at h
    by_cases q : k = a
    · rw [if_pos q] at h; cases h
    · rw [if_neg q] at h
      unfold putE
      rw [if_neg q, putE_new h]; rfl
theorem oc_putEnt {d : Option Tmp} {ty : TypeId} {pos : String} {aft : Array Edge} {g : Option (Nat × Bool)} {s x y : Operand} {eb : Nat} {l : List (ByteArray × Ent)} (hm : H eb = some (entR l)) {k : ByteArray} {e : Ent} :
    OC Tryd.prog ⟨d, .mapUpdate 56 s x y, ty, pos, aft, g⟩ [.s (.map (some eb)), .s (.string k), .agg e.enc] H (fun r H' => r = .any ∧ H' = upd H eb (entR (putE k e l))) := by
  have h := oc_mapUpdate (d := d) (ty := ty) (pos := pos) (aft := aft) (g := g) (s := s) (x := x) (y := y) strK um56 hm (k := k) (u := .agg e.enc) (kT := .s (.string k)) rep_s
  rw [putK_ent] at h
  exact h
theorem oc_putS {d : Option Tmp} {ty : TypeId} {pos : String} {aft : Array Edge} {g : Option (Nat × Bool)} {s x y : Operand} {m : Nat} {ks : List ByteArray} (hm : H m = some (setR strV ks)) {k : ByteArray} :
    OC Tryd.prog ⟨d, .mapUpdate 55 s x y, ty, pos, aft, g⟩ [.s (.map (some m)), .s (.string k), .s (.bool true)] H (fun r H' => r = .any ∧ H' = upd H m (setR strV (addK ks k))) :=
  oc_put (k := k) (kT := .s (.string k)) strK um55 hm rep_s
theorem oc_hasS {d : Option Tmp} {ty : TypeId} {pos : String} {aft : Array Edge} {g : Option (Nat × Bool)} {s x : Operand} {m : Nat} {ks : List ByteArray} (hm : H m = some (setR strV ks)) {k : ByteArray} {q : Bool} (hq : inB k ks = q) :
    OC Tryd.prog ⟨d, .lookup 55 s x false, ty, pos, aft, g⟩ [.s (.map (some m)), .s (.string k)] H (fun r H' => r = .s (.bool q) ∧ H' = H) :=
  oc_hasB (kT := .s (.string k)) hq strK um55 zt4 hm rep_s
/-- What Add tells, and leaves. -/
def Sym.addE (S : Sym) (md : ByteArray) (gt : Int) (ex : List ByteArray) : Int :=
  if badN md || decide (0 ≤ fi badN ex) then 6
  else if decide (gt < 0) || (decide (8 ≤ gt) || (decide ((8 : Int) < ex.length) || decide (((setOf ex).length : Int) < ex.length))) then 2
  else if inB md S.mods || decide (0 ≤ fi (fun s => (getE s S.ents).isSome) ex) then 9 else 0
def Sym.add (S : Sym) (md : ByteArray) (gt : Int) (ex : List ByteArray) : Sym :=
  if S.addE md gt ex = 0 then ⟨S.mods ++ [md], S.ents ++ entsOf md gt ex⟩ else S
theorem getE_app {k : ByteArray} : ∀ {l m : List (ByteArray × Ent)}, (getE k (l ++ m)).isSome = ((getE k l).isSome || (getE k m).isSome)
  | [], m => rfl
  | (a, u) :: l, m => by
    simp only [List.cons_append, getE]
    by_cases h : k = a
    · rw [if_pos h, if_pos h]; rfl
    · rw [if_neg h, if_neg h]; exact getE_app
theorem getE_mem {k : ByteArray} : ∀ {l : List (ByteArray × Ent)}, (getE k l).isSome = true ↔ k ∈ l.map (·.1)
  | [] => by simp [getE]
  | (a, u) :: l => by
    simp only [getE, List.map_cons, List.mem_cons]
    by_cases h : k = a
    · rw [if_pos h]; simp [h]
    · rw [if_neg h, getE_mem]; simp [h]
theorem entsOf_keys (md : ByteArray) (gt : Int) (l : List ByteArray) : (entsOf md gt l).map (·.1) = l := by
  unfold entsOf
  rw [List.map_map]
  apply List.ext_getElem?
  intro i
  rw [List.getElem?_map, List.getElem?_zipIdx]
  cases l[i]? <;> rfl
theorem setOf_mem {l : List ByteArray} : ∀ {ks : List ByteArray} {k : ByteArray}, k ∈ l.foldl addK ks ↔ k ∈ ks ∨ k ∈ l := by
  induction l with
  | nil => intro ks k; simp
  | cons x l ih =>
    intro ks k
    rw [List.foldl_cons, ih]
    unfold addK
    by_cases h : x ∈ ks
    · rw [if_pos h]; simp only [List.mem_cons]
      constructor
      · rintro (q | q); exact .inl q; exact .inr (.inr q)
      · rintro (q | q | q); exact .inl q; exact .inl (q ▸ h); exact .inr q
    · rw [if_neg h]; simp only [List.mem_append, List.mem_cons, List.not_mem_nil, or_false, or_assoc]
theorem setOf_len {l : List ByteArray} : ∀ {ks : List ByteArray}, (l.foldl addK ks).length ≤ ks.length + l.length ∧ ((l.foldl addK ks).length = ks.length + l.length ↔ l.Nodup ∧ ∀ x ∈ l, x ∉ ks) := by
  induction l with
  | nil => intro ks; simp
  | cons x l ih =>
    intro ks
    rw [List.foldl_cons]
    obtain ⟨h1, h2⟩ := ih (ks := addK ks x)
    by_cases h : x ∈ ks
    · have e : addK ks x = ks := if_pos h
      rw [e] at h1 h2 ⊢
      refine ⟨by simp; omega, ⟨fun q => by simp at q; omega, fun q => absurd h (q.2 x (by simp))⟩⟩
    · have e : addK ks x = ks ++ [x] := if_neg h
      rw [e] at h1 h2 ⊢
      rw [List.length_append, List.length_singleton] at h1 h2
      refine ⟨by simp; omega, ?_⟩
      rw [show ks.length + (x :: l).length = ks.length + 1 + l.length by simp; omega, h2, List.nodup_cons]
      constructor
      · rintro ⟨q1, q2⟩
        refine ⟨⟨fun hx => ?_, q1⟩, fun y hy => ?_⟩
        · exact q2 x hx (by simp)
        · rcases List.mem_cons.1 hy with rfl | hy
          · exact h
          · exact fun hk => q2 y hy (by simp [hk])
      · rintro ⟨⟨q1, q2⟩, q3⟩
        refine ⟨q2, fun y hy hk => ?_⟩
        rcases List.mem_append.1 hk with hk | hk
        · exact q3 y (by simp [hy]) hk
        · rw [List.mem_singleton.1 hk] at hy; exact q1 hy
theorem setOf_nodup {l : List ByteArray} : decide (((setOf l).length : Int) < l.length) = false ↔ l.Nodup := by
  have := setOf_len (l := l) (ks := [])
  unfold setOf
  simp only [List.length_nil, Nat.zero_add, List.not_mem_nil, not_false_eq_true, implies_true, and_true] at this
  rw [decide_eq_false_iff_not, ← this.2]
  omega
end Go.Abs
/- What modules export: Add, walked. -/
namespace Go.Abs
set_option linter.unusedSimpArgs false
set_option linter.unusedVariables false
set_option maxHeartbeats 4000000
open Go.Proofs Go.Nm Go.Wd
set_option linter.unusedVariables false
set_option maxRecDepth 8000
variable {H : Heap}
theorem upd_same {H : Heap} {b : Nat} {r : Root} (h : H b = some r) : upd H b r = H := by
  funext x
  rw [upd_eq]
  by_cases q : x = b
  · rw [if_pos q, q, h]
  · rw [if_neg q]
theorem Sym.add_no {S : Sym} {md : ByteArray} {gt : Int} {ex : List ByteArray} (h : S.addE md gt ex ≠ 0) : S.add md gt ex = S := if_neg h
theorem SymAt.same {H : Heap} {t mb eb : Nat} {S : Sym} (h : SymAt H t mb eb S) : upd (upd H mb (setR strV S.mods)) eb (entR S.ents) = H := by
  rw [upd_same h.mod, upd_same h.ent]
set_option maxHeartbeats 2000000 in
theorem addS_bad {G : Heap} (g : GH G) (hs : Sub G H) {t : Nat} {md : ByteArray} (hmd : fits md) {gt : Int} {ex : List ByteArray} (hex : ∀ s ∈ ex, fits s) (hl : ex.length < 4611686018427387904)
    (q1 : (badN md || decide (0 ≤ fi badN ex)) = true) :
    AC Tryd.prog 10 [.s (.pointer (some ⟨t, 0, none⟩)), .s (.string md), .s (.int .i64 gt), .vs 1 (ex.map s1)] H (fun r H' => r = .s (.int .i64 6) ∧ H' = H) := by
  refine AC.body Tryd.func10 rfl rfl (n := 88) (res := [.tmp 8]) rfl rfl (by simp) ?_
  simp only [ent]
  have B := badS_c g hs hmd
  have C := (cofS_c ex hl 24 [] badN H (fun x hx => badS_c g hs (hex x hx))).func
  clear hs g hmd hex hl
  cases q2 : badN md with
  | true =>
    rw [q2] at B
    clear q1
    (repeat' (first | refine wk ?_ | refine wk2 ?_ ?_ | with_reducible refine wkF fun _ _ _ => ?_ | with_reducible intro _ | refine Calling.eq (B) ?_ | refine Calling.eq (C) ?_ | exact ag | fail))
    exact fin0
  | false =>
    rw [q2, Bool.false_or] at q1
    rw [q2] at B
    rw [q1] at C
    (repeat' (first | refine wk ?_ | refine wk2 ?_ ?_ | with_reducible refine wkF fun _ _ _ => ?_ | with_reducible intro _ | refine Calling.eq (B) ?_ | refine Calling.eq (C) ?_ | exact ag | fail))
    exact fin0
theorem fi_nn {α : Type} {p : α → Bool} {l : List α} (h : decide (0 ≤ fi p l) = false) : ∀ y ∈ l, p y = false := by
  have h := of_decide_eq_false h
  unfold fi at h
  split at h
  · exact absurd (Int.natCast_nonneg _) h
  · rename_i hj
    exact fun y hy => by simpa using List.findIdx?_eq_none_iff.1 hj y hy
theorem not_take {α : Type} {l : List α} (h : l.Nodup) {i : Nat} {x : α} (hx : l[i]? = some x) : x ∉ l.take i := by
  intro hm
  obtain ⟨j, hj⟩ := List.mem_iff_getElem?.1 hm
  rw [List.getElem?_take] at hj
  split at hj
  · rename_i hji
    obtain ⟨hi, e1⟩ := List.getElem?_eq_some_iff.1 hx
    obtain ⟨hk, e2⟩ := List.getElem?_eq_some_iff.1 hj
    have := (List.getElem?_inj hi h).1 (hx.trans hj.symm)
    omega
  · cases hj
theorem fresh {S : Sym} {md : ByteArray} {gt : Int} {ex : List ByteArray} (h1 : decide (0 ≤ fi (fun s => (getE s S.ents).isSome) ex) = false) (h2 : decide (((setOf ex).length : Int) < ex.length) = false) {i : Nat} {x : ByteArray} (hx : ex[i]? = some x) :
    (getE x (S.ents ++ entsOf md gt (ex.take i))).isSome = false := by
  rw [getE_app, fi_nn h1 x (List.mem_of_getElem? hx), Bool.false_or, Bool.eq_false_iff, ne_eq, getE_mem, entsOf_keys]
  exact not_take (setOf_nodup.1 h2) hx
theorem addK_new {k : ByteArray} {ks : List ByteArray} (h : inB k ks = false) : addK ks k = ks ++ [k] := by unfold addK; rw [if_neg (by unfold inB at h; simpa using h)]
set_option maxHeartbeats 2000000 in
theorem addS_ok {G : Heap} (g : GH G) (hs : Sub G H) {t mb eb : Nat} {S : Sym} (hS : SymAt H t mb eb S) (n1 : t ≠ mb) (n2 : t ≠ eb) (n3 : mb ≠ eb) {md : ByteArray} (hmd : fits md) {gt : Int} {ex : List ByteArray} (hex : ∀ s ∈ ex, fits s) (hl : ex.length < 4611686018427387904)
    (q1 : (badN md || decide (0 ≤ fi badN ex)) = false) :
    AC Tryd.prog 10 [.s (.pointer (some ⟨t, 0, none⟩)), .s (.string md), .s (.int .i64 gt), .vs 1 (ex.map s1)] H (fun r H' => r = .s (.int .i64 (S.addE md gt ex)) ∧ H' = upd (upd H mb (setR strV (S.add md gt ex).mods)) eb (entR (S.add md gt ex).ents)) := by
  refine AC.body Tryd.func10 rfl rfl (n := 88) (res := [.tmp 8]) rfl rfl (by simp) ?_
  simp only [ent]
  have B := badS_c g hs hmd
  have C := (cofS_c ex hl 24 [] badN H (fun x hx => badS_c g hs (hex x hx))).func
  have T := fun (K : Heap) (k1 : K t = some (.cells [.s (.map (some mb)), .s (.map (some eb))])) (k2 : K mb = some (setR strV S.mods)) (k3 : K eb = some (entR S.ents)) => cofSB_c ex hl 27 (.s (.pointer (some ⟨t, 0, none⟩))) (fun s => (getE s S.ents).isSome) K (fun x _ => there_s ⟨k1, k2, k3⟩ x)
  have hS' := later hS.same
  obtain ⟨h1, h2, h3⟩ := hS
  clear hs g hmd hex
  have hA : S.addE md gt ex = if badN md || decide (0 ≤ fi badN ex) then 6
    else if decide (gt < 0) || (decide (8 ≤ gt) || (decide ((8 : Int) < ex.length) || decide (((setOf ex).length : Int) < ex.length))) then 2
    else if inB md S.mods || decide (0 ≤ fi (fun s => (getE s S.ents).isSome) ex) then 9 else 0 := rfl
  rw [q1, if_neg (by decide)] at hA
  replace hA := later hA
  simp only [Bool.or_eq_false_iff] at q1
  obtain ⟨q1, q2⟩ := q1
  rw [q1] at B
  rw [q2] at C
  (repeat' (first | refine wk ?_ | refine wk2 ?_ ?_ | with_reducible refine wkF fun _ _ _ => ?_ | with_reducible intro _ | refine Calling.eq (B) ?_ | refine Calling.eq (C) ?_ | refine Doing.fresh (oc_makeSet strV) fun _ _ _ => ?_ | exact ag | fail))
  clear B C q1 q2
  rename_i b hb hbn
  refine ARun.rounds (fun i : Nat => ⟨[(0, .s (.pointer (some ⟨t, 0, none⟩))), (1, .s (.string md)), (2, .s (.int .i64 gt)), (3, .vs 1 (ex.map s1)), (10, .s (.map (some b))), (26, .vs 1 (ex.map s1)), (27, .s (.int .i64 ex.length)), (28, .s (.int .i64 i))],
    upd H b (setR strV (setOf (ex.take i)))⟩) (fun i => ex.length - i) (fun i => i ≤ ex.length) ?_ 0 (by omega) ?_
  · rintro i hi next
    by_cases hlt : i < ex.length
    · have e1 : (i : Int) < ex.length := by omega
      have e2 : (0 : Int) ≤ i := by omega
      obtain ⟨x, hx⟩ := at_ hlt
      have hx1 := vget s1 hx
      rw [s1_def] at hx1
      have hw := w64s (i := i) (by omega)
      have nx := next.go (i + 1) (by omega) (by omega)
      simp only [setOf_snoc hx] at nx
      clear hx next
      (repeat' (first | refine wk ?_ | refine wk2 ?_ ?_ | with_reducible refine wkF fun _ _ _ => ?_ | with_reducible intro _ | refine Doing.eq (oc_putS (ks := setOf (ex.take i)) (ag)) ?_ | exact ag | fail))
      exact ARun.weaken nx (leK (by exact sb))
    · have e1 : decide ((i : Int) < ex.length) = false := by simp; omega
      obtain rfl : i = ex.length := by omega
      rw [List.take_length]
      clear next
      have hA' := hA.go
      clear hA
      cases qa : decide (gt < 0) || (decide (8 ≤ gt) || (decide ((8 : Int) < ex.length) || decide (((setOf ex).length : Int) < ex.length))) with
      | true =>
        rw [qa, if_pos rfl] at hA'
        have hn := Sym.add_no (S := S) (md := md) (gt := gt) (ex := ex) (by rw [hA']; decide)
        rw [hA', hn, hS'.go]
        clear hA' hn T hS'
        (repeat' (first | refine wk ?_ | refine wk2 ?_ ?_ | with_reducible refine wkF fun _ _ _ => ?_ | with_reducible intro _ | exact ag | fail))
        all_goals first | (exact fin0) | (exfalso; simp_all; done)
      | false =>
        rw [qa, if_neg (by decide)] at hA'
        simp only [Bool.or_eq_false_iff] at qa
        obtain ⟨qa, qb, qc, qd⟩ := qa
        cases qm : inB md S.mods with
        | true =>
          rw [qm, Bool.true_or, if_pos rfl] at hA'
          have hn := Sym.add_no (S := S) (md := md) (gt := gt) (ex := ex) (by rw [hA']; decide)
          rw [hA', hn, hS'.go]
          clear hA' hn T hS'
          (repeat' (first | refine wk ?_ | refine wk2 ?_ ?_ | with_reducible refine wkF fun _ _ _ => ?_ | with_reducible intro _ | refine Doing.eq (oc_hasS (ag) qm) ?_ | exact ag | fail))
          exact fin0
        | false =>
          rw [qm, Bool.false_or] at hA'
          cases qe : decide (0 ≤ fi (fun s => (getE s S.ents).isSome) ex) with
          | true =>
            rw [qe, if_pos rfl] at hA'
            have hn := Sym.add_no (S := S) (md := md) (gt := gt) (ex := ex) (by rw [hA']; decide)
            rw [hA', hn, hS'.go]
            rw [qe] at T
            clear hA' hn hS'
            (repeat' (first | refine wk ?_ | refine wk2 ?_ ?_ | with_reducible refine wkF fun _ _ _ => ?_ | with_reducible intro _ | refine Doing.eq (oc_hasS (ag) qm) ?_ | refine Calling.eq (T _ (ag) (ag) (ag)) ?_ | exact ag | fail))
            exact fin0
          | false =>
            rw [qe, if_neg (by decide)] at hA'
            have hn : S.add md gt ex = ⟨S.mods ++ [md], S.ents ++ entsOf md gt ex⟩ := if_pos hA'
            rw [hA', hn]
            have hk := addK_new qm
            have fr := fun (i : Nat) (x : ByteArray) (hx : ex[i]? = some x) => fresh (md := md) (gt := gt) qe qd hx
            replace fr := later fr
            rw [qe] at T
            clear hA' hn hS' qe
            have hu : upd H mb (setR strV (S.mods ++ [md])) eb = some (entR S.ents) := by rw [upd_eq, if_neg n3.symm]; exact h3
            have h0 := upd_same hu
            replace h0 := later h0
            (repeat' (first | refine wk ?_ | refine wk2 ?_ ?_ | with_reducible refine wkF fun _ _ _ => ?_ | with_reducible intro _ | refine Doing.eq (oc_hasS (ag) qm) ?_ | refine Calling.eq (T _ (ag) (ag) (ag)) ?_ | refine Doing.eq (oc_putS (ks := S.mods) (ag)) ?_ | exact ag | fail))
            refine ARun.rounds (fun i : Nat => ⟨[(0, .s (.pointer (some ⟨t, 0, none⟩))), (1, .s (.string md)), (2, .s (.int .i64 gt)), (70, .vs 1 (ex.map s1)), (71, .s (.int .i64 ex.length)), (72, .s (.int .i64 i))],
              upd (upd H mb (setR strV (S.mods ++ [md]))) eb (entR (S.ents ++ entsOf md gt (ex.take i)))⟩) (fun i => ex.length - i) (fun i => i ≤ ex.length) ?_ 0 (by omega) ?_
            · rintro i hi next
              by_cases hlt : i < ex.length
              · have e1 : (i : Int) < ex.length := by omega
                have e2 : (0 : Int) ≤ i := by omega
                obtain ⟨x, hx⟩ := at_ hlt
                have hx1 := vget s1 hx
                rw [s1_def] at hx1
                have hw := w64s (i := i) (by omega)
                have nx := next.go (i + 1) (by omega) (by omega)
                have e3 : S.ents ++ entsOf md gt (ex.take (i + 1)) = putE x ⟨x, md, gt, (i : Nat), 0⟩ (S.ents ++ entsOf md gt (ex.take i)) := by
                  rw [putE_new (fr.go i x hx), entsOf_snoc hx, List.append_assoc]
                simp only [e3] at nx
                clear hx next e3
                (repeat' (first | refine wk ?_ | refine wk2 ?_ ?_ | with_reducible refine wkF fun _ _ _ => ?_ | with_reducible intro _ | refine Doing.eq (oc_putEnt (l := S.ents ++ entsOf md gt (ex.take i)) (e := ⟨x, md, gt, (i : Nat), 0⟩) (ag)) ?_ | exact ag | fail))
                exact ARun.weaken nx (leK (by exact sb))
              · have e1 : decide ((i : Int) < ex.length) = false := by simp; omega
                obtain rfl : i = ex.length := by omega
                rw [List.take_length]
                clear next
                (repeat' (first | refine wk ?_ | refine wk2 ?_ ?_ | with_reducible refine wkF fun _ _ _ => ?_ | with_reducible intro _ | exact ag | fail))
                exact fin0
            · have e4 : S.ents ++ entsOf md gt (ex.take 0) = S.ents := List.append_nil _
              simp only [e4, h0.go, hk]
              exact leK (by exact sb)
  · exact leK (Sub.refl _)
theorem addS_c {G : Heap} (g : GH G) (hs : Sub G H) {t mb eb : Nat} {S : Sym} (hS : SymAt H t mb eb S) (n1 : t ≠ mb) (n2 : t ≠ eb) (n3 : mb ≠ eb) {md : ByteArray} (hmd : fits md) {gt : Int} {ex : List ByteArray} (hex : ∀ s ∈ ex, fits s) (hl : ex.length < 4611686018427387904) :
    AC Tryd.prog 10 [.s (.pointer (some ⟨t, 0, none⟩)), .s (.string md), .s (.int .i64 gt), .vs 1 (ex.map s1)] H (fun r H' => r = .s (.int .i64 (S.addE md gt ex)) ∧ H' = upd (upd H mb (setR strV (S.add md gt ex).mods)) eb (entR (S.add md gt ex).ents)) := by
  cases q : (badN md || decide (0 ≤ fi badN ex)) with
  | false => exact addS_ok g hs hS n1 n2 n3 hmd hex hl q
  | true =>
    have e : S.addE md gt ex = 6 := if_pos q
    rw [e, Sym.add_no (by rw [e]; decide), hS.same]
    exact addS_bad g hs hmd hex hl q
end Go.Abs
/- Where a module stands: what the program's functions make. -/
namespace Go.Abs
set_option linter.unusedSimpArgs false
set_option linter.unusedVariables false
open Go.Proofs Go.Nm Go.Wd
set_option linter.unusedVariables false
set_option maxRecDepth 8000
variable {H : Heap}
/-- Pages for so many words. -/
def upN (n : Nat) : Nat := (n + 15) / 16
theorem upN_le {n : Nat} : n ≤ 16 * upN n ∧ 16 * upN n ≤ n + 15 := by unfold upN; omega
/-- What a word is: in code or in data, where, and whether it is there. -/
def Mod.spot (m : Mod) (i : Nat) : Bool × Nat × Bool := if i < m.co.length then (true, i, true) else if 16 * upN m.co.length ≤ i ∧ i - 16 * upN m.co.length < m.da.length then (false, i - 16 * upN m.co.length, true) else (false, 0, false)
theorem spot_lt {m : Mod} {i : Nat} (h : (m.spot i).2.2 = true) : (m.spot i).2.1 < if (m.spot i).1 then m.co.length else m.da.length := by
  unfold Mod.spot at h ⊢
  split
  · rename_i q; simpa using q
  · rename_i q
    rw [if_neg q] at h
    split
    · rename_i q2; simpa using q2.2
    · rename_i q2; rw [if_neg q2] at h; cases h
/-- A word as the module has it. -/
def Mod.raw (m : Mod) (i : Nat) : Nat := if (m.spot i).2.2 then if (m.spot i).1 then m.co.getD (m.spot i).2.1 0 else m.da.getD (m.spot i).2.1 0 else 0
end Go.Abs
/- Addresses in words: what the program's functions make. -/
namespace Go.Abs
set_option linter.unusedSimpArgs false
set_option linter.unusedVariables false
open Go.Proofs Go.Nm Go.Wd
set_option linter.unusedVariables false
set_option maxRecDepth 8000
variable {H : Heap}
/-- An instruction's number stands in its lowest bits. -/
theorem bit_enc {o d a v i : Nat} (hv : v < 2 ^ 21) (hi : i < 21) : (encN o d a 0 (v : Int)).testBit i = v.testBit i := by
  unfold encN
  have c : cutN (v : Int) = v := by unfold cutN; omega
  rw [c, Nat.or_zero, withN_bit _ _ _ _ _ (withN_lt _ _ _ _) (by decide) (by omega), if_neg (by omega), withN_bit _ _ _ _ _ (withN_lt _ _ _ _) (by decide) (by omega), if_neg (by omega), withN_bit _ _ _ _ _ (by omega) (by decide) (by omega), if_neg (by omega)]
theorem bit_high {o d a v i : Nat} (hv : v < 2 ^ 21) (hi : 21 ≤ i) : (encN o d a 0 (v : Int)).testBit i = (encN o d a 0 0).testBit i := by
  by_cases h32 : i < 32
  · unfold encN
    have c : cutN (v : Int) = v := by unfold cutN; omega
    have c0 : cutN 0 = 0 := rfl
    rw [c, c0, Nat.or_zero, Nat.or_zero]
    have hb : v.testBit i = false := Nat.testBit_lt_two_pow (Nat.lt_of_lt_of_le hv (Nat.pow_le_pow_right (by decide) hi))
    rw [withN_bit _ _ _ _ _ (withN_lt _ _ _ _) (by decide) h32, withN_bit _ _ _ _ _ (withN_lt _ _ _ _) (by decide) h32, withN_bit _ _ _ _ _ (by omega) (by decide) h32]
    rw [withN_bit _ _ _ _ _ (withN_lt _ _ _ _) (by decide) h32, withN_bit _ _ _ _ _ (withN_lt _ _ _ _) (by decide) h32, withN_bit _ _ _ _ _ (by decide) (by decide) h32, hb, Nat.zero_testBit]
  · have h : ∀ v : Int, (encN o d a 0 v).testBit i = false := fun v => Nat.testBit_lt_two_pow (Nat.lt_of_lt_of_le (withN_lt _ _ _ _) (Nat.pow_le_pow_right (by decide) (by omega)))
    rw [h, h]
theorem enc_add {o d a v : Nat} (hv : v < 2 ^ 21) : encN o d a 0 (v : Int) = encN o d a 0 0 + v := by
  have e : encN o d a 0 0 = 2 ^ 21 * (encN o d a 0 0 / 2 ^ 21) := by
    have : encN o d a 0 0 % 2 ^ 21 = 0 := by
      apply Nat.eq_of_testBit_eq
      intro i
      rw [Nat.testBit_mod_two_pow, Nat.zero_testBit]
      by_cases hi : i < 21
      · have := bit_enc (o := o) (d := d) (a := a) (v := 0) (i := i) (by decide) hi
        rw [Nat.zero_testBit] at this
        rw [show encN o d a 0 0 = encN o d a 0 ((0 : Nat) : Int) from rfl, this]; simp
      · simp [hi]
    omega
  rw [e, Nat.two_pow_add_eq_or_of_lt hv, ← e]
  apply Nat.eq_of_testBit_eq
  intro i
  rw [Nat.testBit_or]
  by_cases hi : i < 21
  · have := bit_enc (o := o) (d := d) (a := a) (v := 0) (i := i) (by decide) hi
    rw [Nat.zero_testBit] at this
    rw [bit_enc hv hi, show encN o d a 0 0 = encN o d a 0 ((0 : Nat) : Int) from rfl, this]; simp
  · rw [bit_high hv (by omega), Nat.testBit_lt_two_pow (x := v) (Nat.lt_of_lt_of_le hv (Nat.pow_le_pow_right (by decide) (by omega)))]; simp
/-- A word that an address goes to. -/
def fitW (k w : Nat) : Bool := if ((k : Int) == 0) || ((k : Int) == 7) then same5 (dec w) ⟨17, 0, 0, 0, 0⟩ else (((dec w).o : Int) == 2) && ((dec w).i == 0)
theorem fitW_dec {k w : Nat} (h : fitW k w = true) : decE w = 0 ∧ (dec w).b = 0 ∧ (dec w).i = 0 ∧ (((((k : Int) == 0) || ((k : Int) == 7)) = true ∧ (dec w).o = 17 ∧ (dec w).d = 0 ∧ (dec w).a = 0) ∨ ((((k : Int) == 0) || ((k : Int) == 7)) = false ∧ (dec w).o = 2)) ∧ w = encN (dec w).o (dec w).d (dec w).a 0 0 ∧ (dec w).chk = 0 := by
  have ho : (dec w).o = 17 ∨ (dec w).o = 2 := by
    unfold fitW at h
    split at h
    · unfold same5 at h; simp at h; omega
    · simp at h; omega
  by_cases hk : insOk w = true
  · have hd : dec w = parts w := if_pos hk
    have hi : (dec w).i = 0 := by
      unfold fitW at h
      split at h
      · unfold same5 at h; simp at h; omega
      · simp at h; omega
    have hb : (dec w).b = 0 := by
      rw [hd] at ho ⊢
      unfold parts at ho ⊢
      simp only [] at ho ⊢
      have e : (opN w : Int) = ((bitsN w 27 5 : Nat) : Int) := rfl
      rcases ho with ho | ho <;> rw [e, ho] <;> rfl
    have hk' := hk
    unfold insOk at hk'
    obtain ⟨hc, hw⟩ := Bool.and_eq_true_iff.1 hk'
    have hc := of_decide_eq_true hc
    have hw := beq_iff_eq.1 hw
    unfold Ins.word at hw
    rw [if_pos hc, ← hd, hb, hi] at hw
    refine ⟨if_pos hk, hb, hi, ?_, hw.symm, by rw [hd]; exact hc⟩
    unfold fitW at h
    split at h
    · rename_i q
      unfold same5 at h
      simp at h
      exact .inl ⟨q, by omega, by omega, by omega⟩
    · rename_i q
      simp at h
      exact .inr ⟨by simpa using q, by omega⟩
  · have : dec w = Ins.zero := if_neg hk
    rw [this] at ho
    rcases ho with ho | ho <;> cases ho
theorem dec_lt (w : Nat) : (dec w).ok := by
  unfold dec
  split
  · exact parts_ok w
  · exact ⟨by decide, by decide, by decide, by decide, by decide, by decide⟩
/-- The instruction with an address in it. -/
theorem enc_at {k w v : Nat} (h : fitW k w = true) (hv : v < 2 ^ 20) : (⟨(dec w).o, (dec w).d, (dec w).a, (dec w).b, (v : Int)⟩ : Ins).chk = 0 ∧ (⟨(dec w).o, (dec w).d, (dec w).a, (dec w).b, (v : Int)⟩ : Ins).word = w + v := by
  obtain ⟨h1, h2, h3, h4, h5, h6⟩ := fitW_dec h
  have hchk : (⟨(dec w).o, (dec w).d, (dec w).a, (dec w).b, (v : Int)⟩ : Ins).chk = 0 := by
    unfold Ins.chk at h6 ⊢
    simp only [] at h6 ⊢
    have hz := check_zero h6
    unfold checkR badR
    obtain ⟨z1, z2, z3, z4, z5, _⟩ := hz
    have hf : fits21 (v : Int) = true := by unfold fits21; simp; omega
    have ho : (dec w).o = 17 ∨ (dec w).o = 2 := by rcases h4 with h4 | h4; exact .inl h4.2.1; exact .inr h4.2
    have hu : (usesR (((dec w).o : Nat) : Int)).2.2.2 = true := by rcases ho with ho | ho <;> rw [ho] <;> rfl
    rw [z2, z3, z4, hu, hf]
    have hd : decide ((21 : Int) < ((dec w).o : Nat)) = false := by rcases ho with ho | ho <;> rw [ho] <;> rfl
    rw [hd]
    simp
    omega
  refine ⟨hchk, ?_⟩
  unfold Ins.word
  rw [if_pos hchk, h2]
  show encN (dec w).o (dec w).d (dec w).a 0 (v : Int) = w + v
  rw [enc_add (by omega), ← h5]
/-- The address that a relocation stands for. -/
def val (r : Rlc) (pc pd : Nat) (sl : List Nat) : Nat := if impK r then sl.getD r.w 0 else if ((r.k : Int) == 2) || ((r.k : Int) == 5) then (pd + r.w) % 2 ^ 32 else (pc + r.w) % 2 ^ 32
end Go.Abs
/- A module's words with all addresses: what the program's functions make. -/
namespace Go.Abs
set_option linter.unusedSimpArgs false
set_option linter.unusedVariables false
open Go.Proofs Go.Nm Go.Wd
set_option linter.unusedVariables false
set_option maxRecDepth 8000
variable {H : Heap}
theorem fi_cases {α : Type} (p : α → Bool) (l : List α) : (fi p l = -1 ∧ ∀ x ∈ l, p x = false) ∨ ∃ n x, fi p l = ((n : Nat) : Int) ∧ l[n]? = some x ∧ p x = true := by
  unfold fi
  cases h : l.findIdx? p with
  | none => exact .inl ⟨rfl, fun x hx => List.findIdx?_eq_none_iff.1 h x hx⟩
  | some n =>
    obtain ⟨h1, h2, _⟩ := List.findIdx?_eq_some_iff_getElem.1 h
    exact .inr ⟨n, l[n], rfl, List.getElem?_eq_getElem h1, h2⟩
/-- A relocation that names this word. -/
def hitW (c : Bool) (a : Nat) (r : Rlc) : Bool := ((r.a : Int) == (a : Int)) && ((dataK r.k != c) && decide ((r.k : Int) ≤ 7))
theorem bne_b (a b : Bool) : (!(a == b)) = (a != b) := rfl
/-- A module whose words can be linked. -/
structure Mod.lk (m : Mod) (pc pd : Nat) (sl : List Nat) : Prop where
  kind : ∀ r ∈ m.re, r.k ≤ 7
  plac : ∀ r ∈ m.re, r.a < m.len r
  fits : ∀ r ∈ m.re, m.fit r = true
  imp : ∀ r ∈ m.re, impK r = true → r.w < sl.length
  val : ∀ r ∈ m.re, Go.Abs.val r pc pd sl < 2 ^ 20
/-- What a word is raised by. -/
def Mod.inc (m : Mod) (pc pd : Nat) (sl : List Nat) (i : Nat) : Nat := if (m.spot i).2.2 then match m.re.find? (hitW (m.spot i).1 (m.spot i).2.1) with
  | some r => val r pc pd sl
  | none => 0 else 0
theorem find_fi {α : Type} {p : α → Bool} {l : List α} : (fi p l = -1 ∧ l.find? p = none) ∨ ∃ n x, fi p l = ((n : Nat) : Int) ∧ l[n]? = some x ∧ p x = true ∧ l.find? p = some x := by
  unfold fi
  cases h : l.findIdx? p with
  | none => exact .inl ⟨rfl, List.find?_eq_none.2 fun x hx => by simp [List.findIdx?_eq_none_iff.1 h x hx]⟩
  | some n =>
    obtain ⟨h1, h2, h3⟩ := List.findIdx?_eq_some_iff_getElem.1 h
    exact .inr ⟨n, l[n], rfl, List.getElem?_eq_getElem h1, h2, List.find?_eq_some_iff_getElem.2 ⟨h2, n, h1, rfl, fun j hj => by simpa using h3 j hj⟩⟩
theorem raw_lt {m : Mod} (hm : m.ok) (i : Nat) : m.raw i < 2 ^ 32 := by
  unfold Mod.raw
  have key : ∀ (l : List Nat) (a : Nat), (∀ x ∈ l, x < 2 ^ 32) → l.getD a 0 < 2 ^ 32 := fun l a h => by
    rw [List.getD_eq_getElem?_getD]
    cases e : l[a]? with
    | none => decide
    | some x => exact h x (List.mem_of_getElem? e)
  split
  · split
    · exact key _ _ hm.co
    · exact key _ _ hm.da
  · decide
/-- The word that a relocation names is one that an address goes to. -/
theorem hit_fit {m : Mod} {pc pd : Nat} {sl : List Nat} (h : m.lk pc pd sl) {i : Nat} {r : Rlc} (hr : r ∈ m.re) (hs : (m.spot i).2.2 = true) (hh : hitW (m.spot i).1 (m.spot i).2.1 r = true) : if dataK r.k = true then m.raw i = 0 else fitW r.k (m.raw i) = true := by
  have hf := h.fits r hr
  unfold hitW at hh
  simp only [Bool.and_eq_true, decide_eq_true_eq] at hh
  obtain ⟨h1, h2, _⟩ := hh
  have ha : r.a = (m.spot i).2.1 := by have := beq_iff_eq.1 h1; omega
  have hc : (m.spot i).1 = !dataK r.k := by revert h2; cases dataK r.k <;> cases (m.spot i).1 <;> simp
  unfold Mod.raw
  rw [hs, if_pos rfl, hc, ← ha]
  have hsp : r.spot.1 = !dataK r.k := rfl
  unfold Mod.fit at hf
  rw [hsp] at hf
  cases hd : dataK r.k with
  | true => rw [hd] at hf; simpa using hf
  | false => rw [hd] at hf; simpa [fitW] using hf
/-- A module's words with all addresses. -/
def Mod.wd (m : Mod) (pc pd : Nat) (sl : List Nat) (i : Nat) : Nat := m.raw i + m.inc pc pd sl i
def Mod.img (m : Mod) (pc pd : Nat) (sl : List Nat) : List Nat := (List.range (16 * (upN m.co.length + upN m.da.length))).map (m.wd pc pd sl)
theorem ownH_keep {K : Heap} {b c : Nat} {L : List (List TV)} {r : Root} (hb : L ≠ [] → K b = none) (hc : K c = some r) : ownH K b L c = some r := by
  by_cases h : L = []
  · rw [h, ownH_nil]; exact hc
  · rw [ownH_ne (eq_false (none_at (hb h) hc))]; exact hc
theorem sub_ownK {H K : Heap} (h : Sub H K) {b : Nat} {L : List (List TV)} (hb : L ≠ [] → K b = none) : Sub H (ownH K b L) := fun c r hc => ownH_keep hb (h c r hc)
/-- A row of one's own at the return. -/
theorem conv_ownK {H K : Heap} (h : Sub H K) {b k : Nat} {L : List (List TV)} (hb : L ≠ [] → K b = none) (he : Each k L) : Conv (ownH K b L) H (ownT b k L) (.vs k L) := by
  by_cases q : L = []
  · subst q; exact conv_nils
  · exact conv_own (sub_ownK h hb) (.inr (ownH_at q)) (h.gone (hb q)) he
end Go.Abs
/- Imports resolved. -/
namespace Go.Abs
set_option linter.unusedSimpArgs false
set_option linter.unusedVariables false
open Go.Proofs Go.Nm Go.Wd
set_option linter.unusedVariables false
set_option maxRecDepth 8000
variable {H : Heap}
theorem own_gone {K : Heap} {b c : Nat} {L : List (List TV)} (hb : L ≠ [] → K b = none) (hc : ownH K b L c = none) : K c = none := by
  cases h : K c with
  | none => rfl
  | some r => rw [ownH_keep hb h] at hc; cases hc
theorem own_two {K : Heap} {b c : Nat} {L : List (List TV)} (h : L ≠ []) (hc : ownH K b L c = none) : b ≠ c := by
  rintro rfl; rw [ownH_at h] at hc; cases hc
theorem own_upd {K : Heap} {b c : Nat} {L : List (List TV)} {E : Root} (hc : ownH K b L c = none) : upd (ownH K b L) c E = ownH (upd K c E) b L := by
  by_cases h : L = []
  · rw [h, ownH_nil, ownH_nil]
  · have n := own_two h hc
    rw [ownH_ne' h, ownH_ne' h]
    funext x
    simp only [upd_eq]
    by_cases q : x = c
    · rw [if_pos q, if_neg (by rw [q]; exact n.symm), if_pos q]
    · rw [if_neg q, if_neg q]
theorem own_left {K : Heap} {b c : Nat} {L : List (List TV)} {E : Root} (hb : L ≠ [] → K b = none) (hc : ownH K b L c = none) (h : L ≠ []) : upd K c E b = none := by
  rw [upd_eq, if_neg (own_two h hc)]; exact hb h
theorem own_sub {K : Heap} {b c : Nat} {L : List (List TV)} {E : Root} (hc : K c = none) (hb : upd K c E b = none) : Sub (ownH K b L) (ownH (upd K c E) b L) := by
  intro x r hx
  by_cases h : L = []
  · rw [h, ownH_nil] at hx ⊢
    rw [upd_eq, if_neg (by rintro rfl; rw [hc] at hx; cases hx)]; exact hx
  · rw [ownH_ne' h] at hx ⊢
    rw [upd_eq] at hx ⊢
    by_cases q : x = b
    · rw [if_pos q] at hx ⊢; exact hx
    · rw [if_neg q] at hx ⊢
      rw [upd_eq, if_neg (by rintro rfl; rw [hc] at hx; cases hx)]; exact hx
def Ent.slotN (e : Ent) : Nat := e.slot.toNat
theorem slotN_c (e : Ent) (H : Heap) : AC Tryd.prog 12 [.agg e.enc] H (fun r H' => r = .s (.int .u32 e.slotN) ∧ H' = H) := by
  have h : ((e.slotN : Nat) : Int) = e.slot := by
    unfold Ent.slotN Ent.slot IntKind.wrap
    simp [IntKind.bits, IntKind.signed]
    omega
  rw [h]; exact slot_c e H
/-- The slots of imports. -/
def Sym.slotOf (S : Sym) (s : ByteArray) : Nat := ((getE s S.ents).getD Ent.zero).slotN
def Sym.lost (S : Sym) (s : ByteArray) : Bool := !(getE s S.ents).isSome
def Sym.res (S : Sym) (im : List ByteArray) : List Nat × Int := if decide (0 ≤ fi S.lost im) then ([], 23) else (im.map S.slotOf, 0)
end Go.Abs
/- What modules export, by definition. -/
namespace Go.Abs
set_option linter.unusedSimpArgs false
set_option linter.unusedVariables false
set_option maxHeartbeats 4000000
open Go.Proofs Go.Nm Go.Wd
set_option linter.unusedVariables false
set_option maxRecDepth 8000
variable {H : Heap}
structure RSym where
  mods : List ByteArray
  l : List Ent
def RSym.tv (R : RSym) : TV := .agg [.vs 1 (R.mods.map s1), .vs 5 (R.l.map Ent.enc)]
theorem RSym.tv_def (R : RSym) : R.tv = .agg [.vs 1 (R.mods.map s1), .vs 5 (R.l.map Ent.enc)] := rfl
def RSym.ok (R : RSym) : Prop := R.mods.length < 4611686018427387904 ∧ R.l.length < 4611686018427387904
theorem place_c (R : RSym) (hR : R.ok) (k : ByteArray) (H : Heap) : AC Tryd.prog 47 [R.tv, .s (.string k)] H (fun r H' => r = .s (.int .i64 (fi (fun e => e.nm.toList == k.toList) R.l)) ∧ H' = H) := by
  refine AC.body Tryd.func47 rfl rfl (n := 22) (res := [.tmp 4]) rfl rfl (by simp) ?_
  simp only [ent]
  simp only [RSym.tv_def]
  obtain ⟨_, hl⟩ := hR
  (repeat' (first | refine wk ?_ | refine wk2 ?_ ?_ | with_reducible refine wkF fun _ _ _ => ?_ | with_reducible intro _ | exact ag | fail))
  rename_i v hv hvn
  refine ARun.rounds (fun i : Nat => ⟨[(1, .s (.string k)), (2, .s (.pointer (some ⟨v, 0, none⟩))), (5, .s (.int .i64 i))], upd H v (.cells [.vs 1 (R.mods.map s1), .vs 5 (R.l.map Ent.enc)])⟩) (fun i => R.l.length - i) (fun i => i ≤ R.l.length ∧ noneB (fun e : Ent => e.nm.toList == k.toList) R.l i) ?_ 0 ⟨by omega, .zero⟩ ?_
  · rintro i ⟨hi, hno⟩ next
    replace hno := later hno
    by_cases hlt : i < R.l.length
    · have h1 : (i : Int) < R.l.length := by omega
      have h2 : (0 : Int) ≤ i := by omega
      obtain ⟨x, hx⟩ := at_ hlt
      have hx1 := vget Ent.enc hx
      rw [Ent.enc_def] at hx1
      have hw := w64s (i := i) (by omega)
      cases hb : (x.nm.toList == k.toList) with
      | true =>
        have hf := fi_some (p := fun e : Ent => e.nm.toList == k.toList) hx hb hno.go
        rw [hf]
        clear hx next hf
        (repeat' (first | refine wk ?_ | refine wk2 ?_ ?_ | with_reducible refine wkF fun _ _ _ => ?_ | with_reducible intro _ | exact ag | fail))
        exact fin0
      | false =>
        have nx := next.go (i + 1) ⟨by omega, hno.go.succ hx hb⟩ (by omega)
        clear hx next
        (repeat' (first | refine wk ?_ | refine wk2 ?_ ?_ | with_reducible refine wkF fun _ _ _ => ?_ | with_reducible intro _ | exact ag | fail))
        exact ARun.weaken nx (leK (Sub.refl _))
    · have h1 : decide ((i : Int) < R.l.length) = false := by simp; omega
      obtain rfl : i = R.l.length := by omega
      rw [fi_none fun j y hj => hno.go j y ((List.getElem?_eq_some_iff.1 hj).1) hj]
      clear next
      (repeat' (first | refine wk ?_ | refine wk2 ?_ ?_ | with_reducible refine wkF fun _ _ _ => ?_ | with_reducible intro _ | exact ag | fail))
      exact fin0
  · exact leK (Sub.refl _)
theorem rhas_c (R : RSym) (hR : R.ok) (k : ByteArray) (H : Heap) : AC Tryd.prog 35 [R.tv, .s (.string k)] H (fun r H' => r = .s (.bool (decide (0 ≤ fi (fun s : ByteArray => s.toList == k.toList) R.mods))) ∧ H' = H) := by
  refine AC.body Tryd.func35 rfl rfl (n := 20) (res := [.tmp 4]) rfl rfl (by simp) ?_
  simp only [ent]
  simp only [RSym.tv_def]
  obtain ⟨hl, _⟩ := hR
  (repeat' (first | refine wk ?_ | refine wk2 ?_ ?_ | with_reducible refine wkF fun _ _ _ => ?_ | with_reducible intro _ | exact ag | fail))
  rename_i v hv hvn
  refine ARun.rounds (fun i : Nat => ⟨[(1, .s (.string k)), (2, .s (.pointer (some ⟨v, 0, none⟩))), (5, .s (.int .i64 i))], upd H v (.cells [.vs 1 (R.mods.map s1), .vs 5 (R.l.map Ent.enc)])⟩) (fun i => R.mods.length - i) (fun i => i ≤ R.mods.length ∧ noneB (fun s : ByteArray => s.toList == k.toList) R.mods i) ?_ 0 ⟨by omega, .zero⟩ ?_
  · rintro i ⟨hi, hno⟩ next
    replace hno := later hno
    by_cases hlt : i < R.mods.length
    · have h1 : (i : Int) < R.mods.length := by omega
      have h2 : (0 : Int) ≤ i := by omega
      obtain ⟨x, hx⟩ := at_ hlt
      have hx1 := vget s1 hx
      rw [s1_def] at hx1
      have hw := w64s (i := i) (by omega)
      cases hb : (x.toList == k.toList) with
      | true =>
        have hf := fi_some (p := fun s : ByteArray => s.toList == k.toList) hx hb hno.go
        rw [hf, show decide (0 ≤ (i : Int)) = true by simp]
        clear hx next hf
        (repeat' (first | refine wk ?_ | refine wk2 ?_ ?_ | with_reducible refine wkF fun _ _ _ => ?_ | with_reducible intro _ | exact ag | fail))
        exact fin0
      | false =>
        have nx := next.go (i + 1) ⟨by omega, hno.go.succ hx hb⟩ (by omega)
        clear hx next
        (repeat' (first | refine wk ?_ | refine wk2 ?_ ?_ | with_reducible refine wkF fun _ _ _ => ?_ | with_reducible intro _ | exact ag | fail))
        exact ARun.weaken nx (leK (Sub.refl _))
    · have h1 : decide ((i : Int) < R.mods.length) = false := by simp; omega
      obtain rfl : i = R.mods.length := by omega
      rw [fi_none fun j y hj => hno.go j y ((List.getElem?_eq_some_iff.1 hj).1) hj, show decide ((0 : Int) ≤ -1) = false from rfl]
      clear next
      (repeat' (first | refine wk ?_ | refine wk2 ?_ ?_ | with_reducible refine wkF fun _ _ _ => ?_ | with_reducible intro _ | exact ag | fail))
      exact fin0
  · exact leK (Sub.refl _)
def RSym.get (R : RSym) (k : ByteArray) : Option Ent := R.l.find? fun e => e.nm.toList == k.toList
theorem fi_find {α : Type} (p : α → Bool) (l : List α) : (fi p l = -1 ∧ l.find? p = none) ∨ ∃ (n : Nat) (x : α), fi p l = n ∧ l[n]? = some x ∧ l.find? p = some x := by
  cases h : l.find? p with
  | none =>
    refine .inl ⟨fi_none fun j y hj => ?_, rfl⟩
    simpa using List.find?_eq_none.1 h y (List.mem_of_getElem? hj)
  | some x =>
    obtain ⟨hp, n, hn, e, hno⟩ := List.find?_eq_some_iff_getElem.1 h
    refine .inr ⟨n, x, fi_some (x := x) (by rw [List.getElem?_eq_getElem hn, e]) hp fun j y hj hy => ?_, by rw [List.getElem?_eq_getElem hn, e], rfl⟩
    obtain ⟨hk, rfl⟩ := List.getElem?_eq_some_iff.1 hy
    simpa using hno j hj
theorem rfind_c (R : RSym) (hR : R.ok) (k : ByteArray) (H : Heap) : AC Tryd.prog 37 [R.tv, .s (.string k)] H (fun r H' => r = .tup [.agg ((R.get k).getD Ent.zero).enc, .s (.int .i64 (if (R.get k).isSome then 0 else 8))] ∧ H' = H) := by
  refine AC.body Tryd.func37 rfl rfl (n := 18) (res := [.cell 4 67, .tmp 5]) rfl rfl (by simp) ?_
  simp only [ent]
  have P := fun H => place_c R hR k H
  unfold RSym.get
  simp only [RSym.tv_def] at P ⊢
  obtain ⟨_, hl⟩ := hR
  rcases fi_find (fun e : Ent => e.nm.toList == k.toList) R.l with ⟨e1, e2⟩ | ⟨n, x, e1, hx, e2⟩
  · rw [e2]
    rw [e1] at P
    have z : Ent.zero.enc = [.s (.string ByteArray.empty), .s (.string ByteArray.empty), .s (.int .i64 0), .s (.int .i64 0), .s (.int .i64 0)] := rfl
    simp only [Option.isSome_none, Option.getD_none, Bool.false_eq_true, if_false, z]
    clear e1 e2
    (repeat' (first | refine wk ?_ | refine wk2 ?_ ?_ | with_reducible refine wkF fun _ _ _ => ?_ | with_reducible intro _ | refine Calling.eq (P _) ?_ | exact ag | fail))
    exact fin0
  · rw [e2]
    rw [e1] at P
    simp only [Option.isSome_some, Option.getD_some, if_true]
    have hx1 := vget Ent.enc hx
    have hn := (List.getElem?_eq_some_iff.1 hx).1
    have h0 : (0 : Int) ≤ n := by omega
    have h1 : decide ((n : Int) < 0) = false := by simp
    have h2 : (n : Int) < R.l.length := by omega
    rw [Ent.enc_def] at hx1 ⊢
    clear e1 e2 hx
    (repeat' (first | refine wk ?_ | refine wk2 ?_ ?_ | with_reducible refine wkF fun _ _ _ => ?_ | with_reducible intro _ | refine Calling.eq (P _) ?_ | exact ag | fail))
    exact fin0
theorem rslot_c (e : Ent) (H : Heap) : AC Tryd.prog 36 [.agg e.enc] H (fun r H' => r = .s (.int .u32 e.slot) ∧ H' = H) := by
  refine AC.body Tryd.func36 rfl rfl (n := 10) (res := [.tmp 2]) rfl rfl (by simp) ?_
  simp only [ent]
  unfold Ent.slot
  simp only [Ent.enc_def]
  rw [Int.mul_comm e.gt 8]
  (repeat' (first | refine wk ?_ | refine wk2 ?_ ?_ | with_reducible refine wkF fun _ _ _ => ?_ | with_reducible intro _ | exact ag | fail))
  exact fin0
end Go.Abs
/- The order of names, by definition. -/
namespace Go.Abs
set_option linter.unusedSimpArgs false
set_option linter.unusedVariables false
set_option maxHeartbeats 4000000
open Go.Proofs Go.Nm Go.Wd
set_option linter.unusedVariables false
set_option maxRecDepth 8000
variable {H : Heap}
theorem rsplit_c {s : ByteArray} (hf : few s) : AC Tryd.prog 83 [.s (.string s)] H (fun r H' => r = .tup [.s (.string (splitR s).1), .s (.int .i64 (splitR s).2.1), .s (.int .i64 (splitR s).2.2)] ∧ H' = H) := by
  refine AC.body Tryd.func83 rfl rfl (n := 23) (res := [.tmp 2, .tmp 3, .tmp 4]) rfl rfl (by simp) ?_
  simp only [ent]
  have C := fun H => rCheck_c (H := H) hf
  have P := fun H => rparts_c (H := H) hf.fits
  have V := fun H => rversion_c (H := H) (s := cutB s) (cutB_few hf).fits
  unfold splitR
  clear hf
  by_cases q : chk s = 0
  · rw [if_pos q]
    rw [q] at C
    clear q
    (repeat' (first | refine wk ?_ | refine wk2 ?_ ?_ | with_reducible refine wkF fun _ _ _ => ?_ | with_reducible intro _ | refine Calling.eq (C _) ?_ | refine Calling.eq (P _) ?_ | refine Calling.eq (V _) ?_ | exact ag | fail))
    exact fin0
  · rw [if_neg q]
    have h1 : (chk s == 0) = false := by simpa using q
    have h2 : (chk s != 0) = true := by simpa using q
    clear q
    (repeat' (first | refine wk ?_ | refine wk2 ?_ ?_ | with_reducible refine wkF fun _ _ _ => ?_ | with_reducible intro _ | refine Calling.eq (C _) ?_ | refine Calling.eq (P _) ?_ | refine Calling.eq (V _) ?_ | exact ag | fail))
    exact fin0
/-- The order of names. -/
def lessS (a b : ByteArray) : Bool := if (chk a != 0) || (chk b != 0) then Op.bytesLess a.toList b.toList else Op.bytesLess (splitR a).1.toList (splitR b).1.toList || (((splitR a).1.toList == (splitR b).1.toList) && decide ((splitR a).2.1 < (splitR b).2.1))
theorem rless_c {a b : ByteArray} (ha : few a) (hb : few b) : AC Tryd.prog 71 [.s (.string a), .s (.string b)] H (fun r H' => r = .s (.bool (lessS a b)) ∧ H' = H) := by
  refine AC.body Tryd.func71 rfl rfl (n := 45) (res := [.tmp 4]) rfl rfl (by simp) ?_
  simp only [ent]
  have A := fun H => rsplit_c (H := H) ha
  have B := fun H => rsplit_c (H := H) hb
  rw [splitR_e] at A B
  unfold lessS
  clear ha hb
  generalize (splitR a).1 = x at *
  generalize (splitR b).1 = y at *
  generalize (splitR a).2.1 = m at *
  generalize (splitR b).2.1 = n at *
  cases q1 : (chk a != 0) <;> cases q2 : (chk b != 0)
  · simp only [Bool.or_self, Bool.false_eq_true, if_false]
    cases q3 : Op.bytesLess x.toList y.toList <;> cases q4 : (x.toList == y.toList) <;> simp only [Bool.true_or, Bool.false_or, Bool.true_and, Bool.false_and, Bool.or_false]
    all_goals
      (repeat' (first | refine wk ?_ | refine wk2 ?_ ?_ | with_reducible refine wkF fun _ _ _ => ?_ | with_reducible intro _ | refine Calling.eq (A _) ?_ | refine Calling.eq (B _) ?_ | exact ag | fail))
      exact fin0
  all_goals
    simp only [Bool.or_true, Bool.true_or, if_true]
    (repeat' (first | refine wk ?_ | refine wk2 ?_ ?_ | with_reducible refine wkF fun _ _ _ => ?_ | with_reducible intro _ | refine Calling.eq (A _) ?_ | refine Calling.eq (B _) ?_ | exact ag | fail))
    exact fin0
end Go.Abs
/- Imports resolved, by definition. -/
namespace Go.Abs
set_option linter.unusedSimpArgs false
set_option linter.unusedVariables false
open Go.Proofs Go.Nm Go.Wd
set_option linter.unusedVariables false
set_option maxRecDepth 8000
variable {H : Heap}
theorem rslotN_c (e : Ent) (H : Heap) : AC Tryd.prog 36 [.agg e.enc] H (fun r H' => r = .s (.int .u32 e.slotN) ∧ H' = H) := by
  have h : ((e.slotN : Nat) : Int) = e.slot := by
    unfold Ent.slotN Ent.slot IntKind.wrap
    simp [IntKind.bits, IntKind.signed]
    omega
  rw [h]; exact rslot_c e H
def RSym.slotOf (R : RSym) (s : ByteArray) : Nat := ((R.get s).getD Ent.zero).slotN
def RSym.lost (R : RSym) (s : ByteArray) : Bool := !(R.get s).isSome
def RSym.res (R : RSym) (im : List ByteArray) : List Nat × Int := if decide (0 ≤ fi R.lost im) then ([], 23) else (im.map R.slotOf, 0)
end Go.Abs
