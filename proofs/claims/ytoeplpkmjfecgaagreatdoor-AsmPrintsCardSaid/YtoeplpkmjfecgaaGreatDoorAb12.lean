import Derived.Test.YtoeplpkmjfecgaaGreatDoorAb11
/- A region that draws its order, and whose first change is one of two. -/
namespace Go.Abs
set_option linter.unusedSimpArgs false
set_option linter.unusedVariables false
section
variable {P : Program}
theorem safe_right {ops : Array Oper} : ∀ (l m : List Nat), safeW ops (l ++ m) = true → safeW ops m = true
  | [], m, h => h
  | x :: l, m, h => safe_right l m (safeW_cons h).2.2
theorem safe_left {ops : Array Oper} : ∀ (l m : List Nat), safeW ops (l ++ m) = true → safeW ops l = true
  | [], m, h => rfl
  | x :: l, m, h => by
    simp only [List.cons_append, safeW, Bool.and_eq_true, List.all_eq_true] at h ⊢
    exact ⟨⟨h.1.1, fun y hy => h.1.2 y (List.mem_append_left _ hy)⟩, safe_left l m h.2⟩
/-- One change, done; behind it the changes stand in a row. -/
theorem draw_step {ops : Array Oper} {n : NT} (hd : ∀ o ∈ ops, ∀ t, o.dst = some t → t < n.n) {O : List Nat} (hsafe : safeW ops O = true) (hfed : fedB ops O = true) (hdown : downB ops = true) (hlt : ∀ j ∈ O, j < ops.size) (hnd : O.Nodup) (hall : ∀ j, j < ops.size → j ∈ O)
    {K : AS → Prop} {Q : Exit → Act → World → Prop} {H0 : Heap} {w0 : World} (hQ : ∀ A a w, K A → Rel n A a w → Ext H0 w0 A.H w → Q .normal a w)
    (fuel i : Nat) (chk new : List Nat) (c' : Option Nat) (rest : List Phase) (pst ev : List Nat) (A : AS) (listed : Array Bool) (a : Act) (w : World)
    (hcount : toCome ops (listed.setIfInBounds i true) ≤ fuel) (hO : O = pst ++ i :: (new ++ (c'.toList ++ orderOf rest))) (hev : ∀ j ∈ ev, j ∈ pst) (hnf : ∀ j ∈ new, isFl ops j = true) (hevc : ∀ j ∈ ev, (chk.contains j || dir ops i j) = true)
    (hnext : (match c' with | none => rest == [] | some i => phOk ops (ev ++ new) (some i) rest) = true) (inv : DInv P ops n ev (i :: (new ++ (c'.toList ++ orderOf rest))) A listed a w) (hE : Ext H0 w0 A.H w)
    {o : Oper} (ho : ops[i]? = some o) (hcont : cgo P ops o A (dphase P ops K ((chk, new, c') :: rest))) (hi : i ∈ Region.ready .any ops listed) :
    wpOp P ops Q i (fun a' w' => wpAny P .any ops Q fuel (listed.setIfInBounds i true) a' w') a w := by
  have hiO : i ∈ O := by rw [hO]; simp
  have hlooks := looks_pend hsafe hfed hlt inv.size (ev := ev) (fun j hj => by rw [hO]; exact List.mem_append_left _ (hev j hj)) hiO hi
  have hdisj : ∀ j ∈ pst, ∀ x ∈ i :: (new ++ (c'.toList ++ orderOf rest)), j ≠ x := by
    rw [hO] at hnd; exact (List.nodup_append.1 hnd).2.2
  refine ch_run hd inv.rel ho hcont hlooks fun v H' a' w' hk hrel hext => ?_
  obtain ⟨hchks, hnews⟩ := hk
  have hsafe_i := safe_right _ _ (hO ▸ hsafe)
  have hsafe_new := safe_left _ _ (safeW_cons hsafe_i).2.2
  obtain ⟨B, hB1, hB2, hB3, hB4⟩ := news_run hnews hnf hsafe_new
  have hB2' : B.H = H' := hB2
  have hni : ∀ j, j ∈ new ++ (c'.toList ++ orderOf rest) → i ≠ j := by
    rintro j hj rfl
    rw [hO] at hnd
    exact (List.nodup_cons.1 (List.nodup_append.1 hnd).2.1).1 hj
  have hlist : ∀ j ∈ new ++ (c'.toList ++ orderOf rest), (listed.setIfInBounds i true).getD j true = false := by
    intro j hj
    rw [listed_set (hni j hj)]
    exact inv.later j (List.mem_cons_of_mem _ hj)
  have apart : ∀ j ∈ ev, ∀ x ∈ i :: (new ++ (c'.toList ++ orderOf rest)), ∀ d, dstOf ops x = some d → d ∉ looks ops j ∧ dstOf ops j ≠ some d := by
    intro j hj x hx d hxd
    obtain ⟨p1, p2, e⟩ := List.append_of_mem (hev j hj)
    have e' : O = p1 ++ j :: (p2 ++ i :: (new ++ (c'.toList ++ orderOf rest))) := by rw [hO, e]; simp
    exact (safeW_apart hsafe p1 _ j e').2 x (List.mem_append_right _ hx) d hxd
  refine draw_main hd hsafe hfed hdown hlt hnd hall hQ fuel c' rest (pst ++ i :: new) (ev ++ new) B _ a' w' hcount (by rw [hO]; simp) ?_ ?_ ⟨by simp [inv.size], ?_, ?_, ?_, ?_⟩ (by rw [hB2']; exact hE.trans hext) hB1
  · intro j hj
    rcases List.mem_append.1 hj with hj | hj
    · exact List.mem_append_left _ (hev j hj)
    · exact List.mem_append_right _ (List.mem_cons_of_mem _ hj)
  · cases c' with
    | none => simpa using hnext
    | some c1 => exact hnext
  · intro j hj; exact hlist j (List.mem_append_right _ hj)
  · intro j hj h1 h2
    by_cases hij : i = j
    · subst hij; exact listed_self
    · rw [listed_set hij]
      refine inv.past j hj (fun h => h1 (List.mem_append_left _ h)) (fun h => ?_)
      rcases List.mem_cons.1 h with h | h
      · exact hij h.symm
      · rcases List.mem_append.1 h with h | h
        · exact h1 (List.mem_append_right _ h)
        · exact h2 h
  · intro j hj h1
    rcases List.mem_append.1 hj with hj | hj
    · have hw := hevc j hj
      simp only [Bool.or_eq_true] at hw
      have hji : i ≠ j := fun e => hdisj j (hev j hj) i (by simp) e.symm
      rcases hw with hw | hw
      · refine chkA_congr (A := (⟨A.env, H'⟩ : AS).put o.dst v) hB2 (fun t ht => ?_) (fun d hdj => ?_) (chks_mem hchks j (by simpa using hw))
        · refine hB4 t fun x hx e => ?_
          exact (apart j hj x (List.mem_cons_of_mem _ (List.mem_append_left _ hx)) t e).1 ht
        · refine hB4 d fun x hx e => ?_
          exact (apart j hj x (List.mem_cons_of_mem _ (List.mem_append_left _ hx)) d e).2 hdj
      · rw [listed_set hji, ready_dir inv.size hi hw (hlt j (by rw [hO]; exact List.mem_append_left _ (hev j hj)))] at h1
        cases h1
    · exact hB3 j hj
  · have hle : AS.le ⟨filt (pend ops (listed.setIfInBounds i true) (ev ++ new)) B.env, B.H⟩ ((⟨filt (pend ops listed ev) A.env, H'⟩ : AS).put o.dst v) := by
      refine ⟨fun t u hu => ?_, fun b r hb => by rw [← hB2']; exact hb⟩
      have hu' : look (filt (pend ops (listed.setIfInBounds i true) (ev ++ new)) B.env) t = some u := hu
      rw [look_filt] at hu'
      split at hu'
      · cases hu'
      · rename_i hnp
        rw [hB4 t (fun x hx e => hnp (mem_pend.2 ⟨x, List.mem_append_right _ hx, hlist x (List.mem_append_left _ hx), e⟩))] at hu'
        have base : ∀ (hne : o.dst ≠ some t), look A.env t = some u → look (filt (pend ops listed ev) A.env) t = some u := by
          intro hne hA
          rw [look_filt_of]
          · exact hA
          · intro hp
            obtain ⟨j, hj, h1, h2⟩ := mem_pend.1 hp
            have hji : i ≠ j := fun e => hdisj j (hev j hj) i (by simp) e.symm
            exact hnp (mem_pend.2 ⟨j, List.mem_append_left _ hj, by rw [listed_set hji]; exact h1, h2⟩)
        cases hod : o.dst with
        | none =>
          rw [hod] at hu' base
          exact base (by simp) hu'
        | some d =>
          rw [hod] at hu' base
          simp only [AS.put, look] at hu' ⊢
          by_cases htd : t = d
          · rw [if_pos htd] at hu' ⊢; exact hu'
          · rw [if_neg htd] at hu' ⊢
            exact base (fun e => htd (Option.some.inj e).symm) hu'
    exact Rel.le hle hrel
theorem noReady {ops : Array Oper} (hdown : downB ops = true) {listed : Array Bool} (hs : listed.size = ops.size) (hr : Region.ready .any ops listed = []) : ∀ j, j < ops.size → listed.getD j true = true := by
  intro j
  induction j using Nat.strongRecOn with
  | _ j ih =>
    intro hj
    cases hl : listed.getD j true with
    | true => rfl
    | false =>
      have : j ∈ Region.ready .any ops listed := by
        rw [mem_ready]
        refine ⟨hl, ops[j], by simp [hj], fun e he hb => ?_⟩
        have hdir : dir ops j e.on = true := by
          unfold dir; rw [Array.getElem?_eq_getElem hj]
          simp only [Array.any_eq_true, Bool.and_eq_true, beq_iff_eq]
          obtain ⟨k, hk, hke⟩ := Array.mem_iff_getElem.1 he
          exact ⟨k, hk, by rw [hke]; exact hb, by rw [hke]⟩
        have hlt' := (dir_lt hdown hdir).1
        have := ih e.on hlt' (by omega)
        rw [Array.getD_eq_getD_getElem?] at this ⊢
        rw [Array.getElem?_eq_getElem (by omega)] at this ⊢
        simpa using this
      rw [hr] at this; cases this
/-- One side of a parting: the change c1 first, then c2, then the rest in a row. -/
def sideOk (ops : Array Oper) (ev : List Nat) (c1 c2 : Nat) (chk : List Nat) (rest : List Phase) : Bool := ev.all (fun j => chk.contains j || dir ops c1 j) && phOk ops ev (some c2) rest
structure Lin (ops : Array Oper) (O : List Nat) : Prop where
  safe : safeW ops O = true
  fed : fedB ops O = true
  lt : ∀ j ∈ O, j < ops.size
  nd : O.Nodup
  all : ∀ j, j < ops.size → j ∈ O
theorem draw_two {ops : Array Oper} {n : NT} (hd : ∀ o ∈ ops, ∀ t, o.dst = some t → t < n.n) (hdown : downB ops = true) {c1 c2 : Nat} {chk1 chk2 : List Nat} {r1 r2 : List Phase} {ev : List Nat} (h1 : Lin ops (ev ++ c1 :: c2 :: orderOf r1)) (h2 : Lin ops (ev ++ c2 :: c1 :: orderOf r2))
    (s1 : sideOk ops ev c1 c2 chk1 r1 = true) (s2 : sideOk ops ev c2 c1 chk2 r2 = true) {o1 o2 : Oper} (ho1 : ops[c1]? = some o1) (ho2 : ops[c2]? = some o2)
    {K : AS → Prop} {Q : Exit → Act → World → Prop} {H0 : Heap} {w0 : World} (hQ : ∀ A a w, K A → Rel n A a w → Ext H0 w0 A.H w → Q .normal a w) {A : AS}
    (k1 : cgo P ops o1 A (dphase P ops K ((chk1, [], some c2) :: r1))) (k2 : cgo P ops o2 A (dphase P ops K ((chk2, [], some c1) :: r2))) :
    ∀ (fuel : Nat) (listed : Array Bool) (a : Act) (w : World), toCome ops listed ≤ fuel → DInv P ops n ev (c1 :: c2 :: orderOf r1) A listed a w → Ext H0 w0 A.H w → wpAny P .any ops Q fuel listed a w := by
  have mem : ∀ j, j ∈ c1 :: c2 :: orderOf r1 ↔ j ∈ c2 :: c1 :: orderOf r2 := by
    have e1 := h1.nd; have e2 := h2.nd
    intro j
    constructor
    · intro hj
      have hj' := h2.all j (h1.lt j (List.mem_append_right _ hj))
      rcases List.mem_append.1 hj' with h | h
      · exact absurd rfl ((List.nodup_append.1 e1).2.2 j h j hj)
      · exact h
    · intro hj
      have hj' := h1.all j (h2.lt j (List.mem_append_right _ hj))
      rcases List.mem_append.1 hj' with h | h
      · exact absurd rfl ((List.nodup_append.1 e2).2.2 j h j hj)
      · exact h
  intro fuel
  induction fuel with
  | zero =>
    intro listed a w hf inv hE
    have := inv.later c1 (by simp)
    have := toCome_set inv.size (h1.lt c1 (by simp)) this
    omega
  | succ fuel ih =>
    intro listed a w hf inv hE
    refine ⟨fun hr => ?_, fun i hi => ?_⟩
    · have := inv.later c1 (by simp)
      rw [noReady hdown inv.size hr c1 (h1.lt c1 (by simp))] at this
      cases this
    · obtain ⟨hil, o, ho, _⟩ := mem_ready.1 hi
      have hin : i < ops.size := (Array.getElem?_eq_some_iff.1 ho).1
      have hcount : toCome ops (listed.setIfInBounds i true) ≤ fuel := by
        have := toCome_set inv.size hin hil; omega
      simp only [sideOk, Bool.and_eq_true, List.all_eq_true] at s1 s2
      by_cases e1 : i = c1
      · subst e1
        exact draw_step hd h1.safe h1.fed hdown h1.lt h1.nd h1.all hQ fuel i chk1 [] (some c2) r1 ev ev A listed a w hcount rfl (fun j hj => hj) (fun j hj => by cases hj) s1.1 (by rw [List.append_nil]; exact s1.2) inv hE ho1 k1 hi
      · by_cases e2 : i = c2
        · subst e2
          have inv2 : DInv P ops n ev (i :: c1 :: orderOf r2) A listed a w := ⟨inv.size, fun j hj => inv.later j ((mem j).2 hj), fun j hj h1 h2 => inv.past j hj h1 (fun h => h2 ((mem j).1 h)), inv.cur, inv.rel⟩
          exact draw_step hd h2.safe h2.fed hdown h2.lt h2.nd h2.all hQ fuel i chk2 [] (some c1) r2 ev ev A listed a w hcount rfl (fun j hj => hj) (fun j hj => by cases hj) s2.1 (by rw [List.append_nil]; exact s2.2) inv2 hE ho2 k2 hi
        · by_cases hr : i ∈ orderOf r1
          · exfalso
            obtain ⟨q, hq, hqc⟩ := waits s1.2 i hr
            have hqf : q ∈ c1 :: c2 :: orderOf r1 := by
              rcases hqc with rfl | hqc
              · simp
              · exact List.mem_cons_of_mem _ (List.mem_cons_of_mem _ hqc)
            have g1 := inv.later q hqf
            have g2 := ready_dir inv.size hi hq (h1.lt q (List.mem_append_right _ hqf))
            rw [g1] at g2; cases g2
          · have hfut : i ∉ c1 :: c2 :: orderOf r1 := by simp [e1, e2, hr]
            have hiev : i ∈ ev := by
              by_cases h : i ∈ ev
              · exact h
              · rw [inv.past i hin h hfut] at hil; cases hil
            have hlooks := looks_pend h1.safe h1.fed h1.lt inv.size (ev := ev) (fun j hj => List.mem_append_left _ hj) (List.mem_append_left _ hiev) hi
            obtain ⟨o', v, d, ho', hod, hv, hlk⟩ := inv.cur i hiev hil
            rw [ho] at ho'; simp only [Option.some.injEq] at ho'; subst ho'
            have hdi : dstOf ops i = some d := by unfold dstOf; rw [ho]; exact hod
            refine fl_run hd inv.rel ho hod hv hlooks fun x w' hx he => ?_
            refine ih _ _ w' hcount ⟨by simp [inv.size], ?_, ?_, ?_, ?_⟩ (hE.trans he)
            · intro j hj
              have hij : i ≠ j := by rintro rfl; exact hfut hj
              rw [listed_set hij]; exact inv.later j hj
            · intro j hj h1 h2
              by_cases hij : i = j
              · subst hij; exact listed_self
              · rw [listed_set hij]; exact inv.past j hj h1 h2
            · intro j hj h1
              by_cases hij : i = j
              · subst hij; rw [listed_self] at h1; cases h1
              · rw [listed_set hij] at h1; exact inv.cur j hj h1
            · have hle : AS.le ⟨filt (pend ops (listed.setIfInBounds i true) ev) A.env, A.H⟩ ⟨(d, v) :: filt (pend ops listed ev) A.env, A.H⟩ := by
                refine ⟨fun t u hu => ?_, fun _ _ h => h⟩
                have hu' : look (filt (pend ops (listed.setIfInBounds i true) ev) A.env) t = some u := hu
                rw [look_filt] at hu'
                split at hu'
                · cases hu'
                · rename_i hnp
                  show look ((d, v) :: filt (pend ops listed ev) A.env) t = some u
                  simp only [look]
                  by_cases htd : t = d
                  · subst htd; rw [hlk] at hu'; rw [if_pos rfl]; exact hu'
                  · rw [if_neg htd, look_filt_of]
                    · exact hu'
                    · intro hp
                      obtain ⟨j, hj, h1, h2⟩ := mem_pend.1 hp
                      refine hnp (mem_pend.2 ⟨j, hj, ?_, h2⟩)
                      have hij : i ≠ j := by rintro rfl; rw [hdi] at h2; simp at h2; exact htd h2.symm
                      rw [listed_set hij]; exact h1
              exact Rel.le hle hx
def linB (ops : Array Oper) (O : List Nat) : Bool := safeW ops O && fedB ops O && O.all (· < ops.size) && decide O.Nodup && (List.range ops.size).all (fun i => O.contains i)
theorem lin_of {ops : Array Oper} {O : List Nat} (h : linB ops O = true) : Lin ops O := by
  simp only [linB, Bool.and_eq_true, List.all_eq_true, decide_eq_true_eq] at h
  obtain ⟨⟨⟨⟨h1, h2⟩, h3⟩, h4⟩, h5⟩ := h
  exact ⟨h1, h2, fun j hj => by simpa using h3 j hj, h4, fun j hj => by simpa using h5 j (List.mem_range.2 hj)⟩
def twoOk (ops : Array Oper) (new : List Nat) (c1 c2 : Nat) (chk1 chk2 : List Nat) (r1 r2 : List Phase) : Bool :=
  Region.noSelect ops && downB ops && linB ops (new ++ c1 :: c2 :: orderOf r1) && linB ops (new ++ c2 :: c1 :: orderOf r2) && new.all (isFl ops) && sideOk ops new c1 c2 chk1 r1 && sideOk ops new c2 c1 chk2 r2 && ops[c1]?.isSome && ops[c2]?.isSome
/-- Either of two changes comes first. -/
def both (P : Program) (ops : Array Oper) (I : AS → Prop) (c1 c2 : Nat) (chk1 chk2 : List Nat) (r1 r2 : List Phase) (A : AS) : Prop :=
  dnext P ops I (dphaseB P ops I ((chk1, [], some c2) :: r1)) (some c1) A ∧ dnext P ops I (dphaseB P ops I ((chk2, [], some c1) :: r2)) (some c2) A
theorem dnext_cgo {ops : Array Oper} {I : AS → Prop} {φ : List Phase} {c : Nat} {A : AS} {o : Oper} (ho : ops[c]? = some o) (h : dnext P ops I (dphaseB P ops I φ) (some c) A) : cgo P ops o A (dphase P ops I φ) := by
  simp only [dnext, ho, onO] at h
  exact cgo_imp h fun B hB => dphaseB_dphase hB
theorem ARun.draw2B {ops : Array Oper} {n : NT} {Z : AS → Prop} {k : List Item} {A : AS} {id : Nat} (hm : P.follows .mixedOrders = true) (I : AS → Prop) (new : List Nat) (c1 c2 : Nat) (chk1 chk2 : List Nat) (r1 r2 : List Phase) (hok : twoOk ops new c1 c2 chk1 chk2 r1 r2 = true) (hdst : dstOk n.n ops.toList = true)
    (hI : ∀ A, I A → ARun P n Z k A) (h : newsB P ops (both P ops I c1 c2 chk1 chk2 r1 r2) new A) : ARun P n Z (.code (.region id ops true) :: k) A := by
  intro a w r
  simp only [twoOk, Bool.and_eq_true, List.all_eq_true] at hok
  obtain ⟨⟨⟨⟨⟨⟨⟨⟨_, hdown⟩, l1⟩, l2⟩, hnf⟩, s1⟩, s2⟩, is1⟩, is2⟩ := hok
  obtain ⟨o1, ho1⟩ := Option.isSome_iff_exists.1 is1
  obtain ⟨o2, ho2⟩ := Option.isSome_iff_exists.1 is2
  have h1 := lin_of l1
  have h2 := lin_of l2
  refine TWP.region_draw (dstOk_nd hdst) fun t => ?_
  simp only [Region.schedule, hm, Bool.true_or, if_true]
  refine wpAny_sound ops.size t _ a _ ?_
  obtain ⟨B, ⟨k1, k2⟩, hB2, hB3, hB4⟩ := news_run (newsB_news (k' := both P ops I c1 c2 chk1 chk2 r1 r2) (fun _ h => h) h) (fun j hj => hnf j hj) (safe_left _ _ h1.safe)
  have hnone : ∀ j, j < ops.size → (Array.replicate ops.size false).getD j true = false := by
    intro j hj; simp [Array.getD_eq_getD_getElem?, hj]
  have hdr : Rel n A a { w with drawn := w.drawn + 1 } :=
    ⟨r.defers, r.size, fun t v hv => ⟨(r.env t v hv).1, Rep.mono (w := w) (w' := { w with drawn := w.drawn + 1 }) (F := Fr A.H w) (F' := Fr A.H { w with drawn := w.drawn + 1 }) (fun b hb => ⟨hb, rfl⟩) (fun b => Nat.le_refl _) _ _ (r.env t v hv).2⟩,
      fun b rr hb => RootRel.ext (w := w) (H := A.H) ⟨Nat.le_refl _, fun _ _ h => ⟨rfl, h⟩, fun _ => Nat.le_refl _, rfl, rfl, rfl, dr_succ _⟩ rfl (r.heap b rr hb)⟩
  refine draw_two (P := P) (n := n) (fun o ho => dstOk_all hdst o (by simpa using ho)) hdown h1 h2 s1 s2 ho1 ho2 (K := I) (H0 := A.H) (w0 := { w with drawn := w.drawn + 1 }) ?_ (dnext_cgo ho1 k1) (dnext_cgo ho2 k2) ops.size _ a _ ?_ ⟨by simp, ?_, ?_, ?_, ?_⟩ (by rw [hB2]; exact .refl _ _)
  · intro A' a' w' hk r' e
    refine (hI A' hk a' w' r').mono fun j a2 w2 ⟨A2, z, r2, e2⟩ => ⟨A2, z, r2, ?_⟩
    have e0 : Ext A.H w A.H { w with drawn := w.drawn + 1 } := ⟨Nat.le_refl _, fun _ _ h => ⟨rfl, h⟩, fun _ => Nat.le_refl _, rfl, rfl, rfl, dr_succ _⟩
    exact (e0.trans e).trans e2
  · unfold toCome
    exact Nat.le_trans (List.length_filter_le _ _) (by simp)
  · intro j hj; exact hnone j (h1.lt j (List.mem_append_right _ hj))
  · intro j hj h1' h2'
    rcases List.mem_append.1 (h1.all j hj) with h | h
    · exact absurd h h1'
    · exact absurd h h2'
  · intro j hj _; exact hB3 j hj
  · have hle : AS.le ⟨filt (pend ops (Array.replicate ops.size false) new) B.env, B.H⟩ A := by
      refine ⟨fun t u hu => ?_, fun b r hb => by rw [← hB2]; exact hb⟩
      have hu' : look (filt (pend ops (Array.replicate ops.size false) new) B.env) t = some u := hu
      rw [look_filt] at hu'
      split at hu'
      · cases hu'
      · rename_i hnp
        rw [hB4 t (fun x hx e => hnp (mem_pend.2 ⟨x, hx, hnone x (h1.lt x (List.mem_append_left _ hx)), e⟩))] at hu'
        exact hu'
    exact Rel.le hle hdr
theorem both_eq {ops : Array Oper} {I : AS → Prop} {c1 c2 : Nat} {chk1 chk2 : List Nat} {r1 r2 : List Phase} {A : AS} : both P ops I c1 c2 chk1 chk2 r1 r2 A = (dnext P ops I (dphaseB P ops I ((chk1, [], some c2) :: r1)) (some c1) A ∧ dnext P ops I (dphaseB P ops I ((chk2, [], some c1) :: r2)) (some c2) A) := id rfl
end
attribute [go_sem] both_eq
end Go.Abs
