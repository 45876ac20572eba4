import Derived.Test.YtoeplpkmjfecgaaGreatDoorAb20
/- A region that draws its order, of two rows of changes that do not wait for each other: one change, then another one, or the other row's first. -/
namespace Go.Abs
set_option linter.unusedSimpArgs false
set_option linter.unusedVariables false
section
variable {P : Program}
theorem draw_stepK {ops : Array Oper} {n : NT} (hd : ∀ o ∈ ops, ∀ t, o.dst = some t → t < n.n) {O : List Nat} (hsafe : safeW ops O = true) (hfed : fedB ops O = true) (hdown : downB ops = true) (hlt : ∀ j ∈ O, j < ops.size) (hnd : O.Nodup) (hall : ∀ j, j < ops.size → j ∈ O)
    {K2 : AS → Prop} {Q : Exit → Act → World → Prop} {H0 : Heap} {w0 : World}
    (fuel i : Nat) (chk new : List Nat) (fut : List Nat) (pst ev : List Nat) (A : AS) (listed : Array Bool) (a : Act) (w : World)
    (hO : O = pst ++ i :: (new ++ fut)) (hev : ∀ j ∈ ev, j ∈ pst) (hnf : ∀ j ∈ new, isFl ops j = true) (hevc : ∀ j ∈ ev, (chk.contains j || dir ops i j) = true)
    (inv : DInv P ops n ev (i :: (new ++ fut)) A listed a w) (hE : Ext H0 w0 A.H w)
    (hmain : ∀ B a' w', K2 B → DInv P ops n (ev ++ new) fut B (listed.setIfInBounds i true) a' w' → Ext H0 w0 B.H w' → wpAny P .any ops Q fuel (listed.setIfInBounds i true) a' w')
    {o : Oper} (ho : ops[i]? = some o) (hcont : cgo P ops o A (fun A => chks P ops A chk ∧ news P ops K2 new A)) (hi : i ∈ Region.ready .any ops listed) :
    wpOp P ops Q i (fun a' w' => wpAny P .any ops Q fuel (listed.setIfInBounds i true) a' w') a w := by
  have hiO : i ∈ O := by rw [hO]; simp
  have hlooks := looks_pend hsafe hfed hlt inv.size (ev := ev) (fun j hj => by rw [hO]; exact List.mem_append_left _ (hev j hj)) hiO hi
  have hdisj : ∀ j ∈ pst, ∀ x ∈ i :: (new ++ fut), j ≠ x := by
    rw [hO] at hnd; exact (List.nodup_append.1 hnd).2.2
  refine ch_run hd inv.rel ho hcont hlooks fun v H' a' w' hk hrel hext => ?_
  obtain ⟨hchks, hnews⟩ := hk
  have hsafe_i := safe_right _ _ (hO ▸ hsafe)
  have hsafe_new := safe_left _ _ (safeW_cons hsafe_i).2.2
  obtain ⟨B, hB1, hB2, hB3, hB4⟩ := news_run hnews hnf hsafe_new
  have hB2' : B.H = H' := hB2
  have hni : ∀ j, j ∈ new ++ fut → i ≠ j := by
    rintro j hj rfl
    rw [hO] at hnd
    exact (List.nodup_cons.1 (List.nodup_append.1 hnd).2.1).1 hj
  have hlist : ∀ j ∈ new ++ fut, (listed.setIfInBounds i true).getD j true = false := by
    intro j hj
    rw [listed_set (hni j hj)]
    exact inv.later j (List.mem_cons_of_mem _ hj)
  have apart : ∀ j ∈ ev, ∀ x ∈ i :: (new ++ fut), ∀ d, dstOf ops x = some d → d ∉ looks ops j ∧ dstOf ops j ≠ some d := by
    intro j hj x hx d hxd
    obtain ⟨p1, p2, e⟩ := List.append_of_mem (hev j hj)
    have e' : O = p1 ++ j :: (p2 ++ i :: (new ++ fut)) := by rw [hO, e]; simp
    exact (safeW_apart hsafe p1 _ j e').2 x (List.mem_append_right _ hx) d hxd
  refine hmain B a' w' hB1 ⟨by simp [inv.size], ?_, ?_, ?_, ?_⟩ (by rw [hB2']; exact hE.trans hext)
  · intro j hj; exact hlist j (List.mem_append_right _ hj)
  · intro j hj h1 h2
    by_cases hij : i = j
    · subst hij; exact listed_self
    · rw [listed_set hij]
      refine inv.past j hj (fun h => h1 (List.mem_append_left _ h)) (fun h => ?_)
      rcases List.mem_cons.1 h with h | h
      · exact hij h.symm
      · rcases List.mem_append.1 h with h | h
        · exact h1 (List.mem_append_right _ h)
        · exact h2 h
  · intro j hj h1
    rcases List.mem_append.1 hj with hj | hj
    · have hw := hevc j hj
      simp only [Bool.or_eq_true] at hw
      have hji : i ≠ j := fun e => hdisj j (hev j hj) i (by simp) e.symm
      rcases hw with hw | hw
      · refine chkA_congr (A := (⟨A.env, H'⟩ : AS).put o.dst v) hB2 (fun t ht => ?_) (fun d hdj => ?_) (chks_mem hchks j (by simpa using hw))
        · refine hB4 t fun x hx e => ?_
          exact (apart j hj x (List.mem_cons_of_mem _ (List.mem_append_left _ hx)) t e).1 ht
        · refine hB4 d fun x hx e => ?_
          exact (apart j hj x (List.mem_cons_of_mem _ (List.mem_append_left _ hx)) d e).2 hdj
      · rw [listed_set hji, ready_dir inv.size hi hw (hlt j (by rw [hO]; exact List.mem_append_left _ (hev j hj)))] at h1
        cases h1
    · exact hB3 j hj
  · have hle : AS.le ⟨filt (pend ops (listed.setIfInBounds i true) (ev ++ new)) B.env, B.H⟩ ((⟨filt (pend ops listed ev) A.env, H'⟩ : AS).put o.dst v) := by
      refine ⟨fun t u hu => ?_, fun b r hb => by rw [← hB2']; exact hb⟩
      have hu' : look (filt (pend ops (listed.setIfInBounds i true) (ev ++ new)) B.env) t = some u := hu
      rw [look_filt] at hu'
      split at hu'
      · cases hu'
      · rename_i hnp
        rw [hB4 t (fun x hx e => hnp (mem_pend.2 ⟨x, List.mem_append_right _ hx, hlist x (List.mem_append_left _ hx), e⟩))] at hu'
        have base : ∀ (hne : o.dst ≠ some t), look A.env t = some u → look (filt (pend ops listed ev) A.env) t = some u := by
          intro hne hA
          rw [look_filt_of]
          · exact hA
          · intro hp
            obtain ⟨j, hj, h1, h2⟩ := mem_pend.1 hp
            have hji : i ≠ j := fun e => hdisj j (hev j hj) i (by simp) e.symm
            exact hnp (mem_pend.2 ⟨j, List.mem_append_left _ hj, by rw [listed_set hji]; exact h1, h2⟩)
        cases hod : o.dst with
        | none =>
          rw [hod] at hu' base
          exact base (by simp) hu'
        | some d =>
          rw [hod] at hu' base
          simp only [AS.put, look] at hu' ⊢
          by_cases htd : t = d
          · rw [if_pos htd] at hu' ⊢; exact hu'
          · rw [if_neg htd] at hu' ⊢
            exact base (fun e => htd (Option.some.inj e).symm) hu'
    exact Rel.le hle hrel
theorem draw_twoP {ops : Array Oper} {n : NT} (hd : ∀ o ∈ ops, ∀ t, o.dst = some t → t < n.n) (hdown : downB ops = true) {c1 c2 : Nat} {chk1 chk2 : List Nat} {r1 r2 : List Phase} {pst ev : List Nat} (hev : ∀ j ∈ ev, j ∈ pst) (h1 : Lin ops (pst ++ c1 :: c2 :: orderOf r1)) (h2 : Lin ops (pst ++ c2 :: c1 :: orderOf r2))
    (s1 : sideOk ops ev c1 c2 chk1 r1 = true) (s2 : sideOk ops ev c2 c1 chk2 r2 = true) {o1 o2 : Oper} (ho1 : ops[c1]? = some o1) (ho2 : ops[c2]? = some o2)
    {K : AS → Prop} {Q : Exit → Act → World → Prop} {H0 : Heap} {w0 : World} (hQ : ∀ A a w, K A → Rel n A a w → Ext H0 w0 A.H w → Q .normal a w) {A : AS}
    (k1 : cgo P ops o1 A (dphase P ops K ((chk1, [], some c2) :: r1))) (k2 : cgo P ops o2 A (dphase P ops K ((chk2, [], some c1) :: r2))) :
    ∀ (fuel : Nat) (listed : Array Bool) (a : Act) (w : World), toCome ops listed ≤ fuel → DInv P ops n ev (c1 :: c2 :: orderOf r1) A listed a w → Ext H0 w0 A.H w → wpAny P .any ops Q fuel listed a w := by
  have mem : ∀ j, j ∈ c1 :: c2 :: orderOf r1 ↔ j ∈ c2 :: c1 :: orderOf r2 := by
    have e1 := h1.nd; have e2 := h2.nd
    intro j
    constructor
    · intro hj
      have hj' := h2.all j (h1.lt j (List.mem_append_right _ hj))
      rcases List.mem_append.1 hj' with h | h
      · exact absurd rfl ((List.nodup_append.1 e1).2.2 j h j hj)
      · exact h
    · intro hj
      have hj' := h1.all j (h2.lt j (List.mem_append_right _ hj))
      rcases List.mem_append.1 hj' with h | h
      · exact absurd rfl ((List.nodup_append.1 e2).2.2 j h j hj)
      · exact h
  intro fuel
  induction fuel with
  | zero =>
    intro listed a w hf inv hE
    have := inv.later c1 (by simp)
    have := toCome_set inv.size (h1.lt c1 (by simp)) this
    omega
  | succ fuel ih =>
    intro listed a w hf inv hE
    refine ⟨fun hr => ?_, fun i hi => ?_⟩
    · have := inv.later c1 (by simp)
      rw [noReady hdown inv.size hr c1 (h1.lt c1 (by simp))] at this
      cases this
    · obtain ⟨hil, o, ho, _⟩ := mem_ready.1 hi
      have hin : i < ops.size := (Array.getElem?_eq_some_iff.1 ho).1
      have hcount : toCome ops (listed.setIfInBounds i true) ≤ fuel := by
        have := toCome_set inv.size hin hil; omega
      simp only [sideOk, Bool.and_eq_true, List.all_eq_true] at s1 s2
      by_cases e1 : i = c1
      · subst e1
        exact draw_step hd h1.safe h1.fed hdown h1.lt h1.nd h1.all hQ fuel i chk1 [] (some c2) r1 pst ev A listed a w hcount rfl hev (fun j hj => by cases hj) s1.1 (by rw [List.append_nil]; exact s1.2) inv hE ho1 k1 hi
      · by_cases e2 : i = c2
        · subst e2
          have inv2 : DInv P ops n ev (i :: c1 :: orderOf r2) A listed a w := ⟨inv.size, fun j hj => inv.later j ((mem j).2 hj), fun j hj h1 h2 => inv.past j hj h1 (fun h => h2 ((mem j).1 h)), inv.cur, inv.rel⟩
          exact draw_step hd h2.safe h2.fed hdown h2.lt h2.nd h2.all hQ fuel i chk2 [] (some c1) r2 pst ev A listed a w hcount rfl hev (fun j hj => by cases hj) s2.1 (by rw [List.append_nil]; exact s2.2) inv2 hE ho2 k2 hi
        · by_cases hr : i ∈ orderOf r1
          · exfalso
            obtain ⟨q, hq, hqc⟩ := waits s1.2 i hr
            have hqf : q ∈ c1 :: c2 :: orderOf r1 := by
              rcases hqc with rfl | hqc
              · simp
              · exact List.mem_cons_of_mem _ (List.mem_cons_of_mem _ hqc)
            have g1 := inv.later q hqf
            have g2 := ready_dir inv.size hi hq (h1.lt q (List.mem_append_right _ hqf))
            rw [g1] at g2; cases g2
          · have hfut : i ∉ c1 :: c2 :: orderOf r1 := by simp [e1, e2, hr]
            have hiev : i ∈ ev := by
              by_cases h : i ∈ ev
              · exact h
              · rw [inv.past i hin h hfut] at hil; cases hil
            have hlooks := looks_pend h1.safe h1.fed h1.lt inv.size (ev := ev) (fun j hj => List.mem_append_left _ (hev j hj)) (List.mem_append_left _ (hev i hiev)) hi
            obtain ⟨o', v, d, ho', hod, hv, hlk⟩ := inv.cur i hiev hil
            rw [ho] at ho'; simp only [Option.some.injEq] at ho'; subst ho'
            have hdi : dstOf ops i = some d := by unfold dstOf; rw [ho]; exact hod
            refine fl_run hd inv.rel ho hod hv hlooks fun x w' hx he => ?_
            refine ih _ _ w' hcount ⟨by simp [inv.size], ?_, ?_, ?_, ?_⟩ (hE.trans he)
            · intro j hj
              have hij : i ≠ j := by rintro rfl; exact hfut hj
              rw [listed_set hij]; exact inv.later j hj
            · intro j hj h1 h2
              by_cases hij : i = j
              · subst hij; exact listed_self
              · rw [listed_set hij]; exact inv.past j hj h1 h2
            · intro j hj h1
              by_cases hij : i = j
              · subst hij; rw [listed_self] at h1; cases h1
              · rw [listed_set hij] at h1; exact inv.cur j hj h1
            · have hle : AS.le ⟨filt (pend ops (listed.setIfInBounds i true) ev) A.env, A.H⟩ ⟨(d, v) :: filt (pend ops listed ev) A.env, A.H⟩ := by
                refine ⟨fun t u hu => ?_, fun _ _ h => h⟩
                have hu' : look (filt (pend ops (listed.setIfInBounds i true) ev) A.env) t = some u := hu
                rw [look_filt] at hu'
                split at hu'
                · cases hu'
                · rename_i hnp
                  show look ((d, v) :: filt (pend ops listed ev) A.env) t = some u
                  simp only [look]
                  by_cases htd : t = d
                  · subst htd; rw [hlk] at hu'; rw [if_pos rfl]; exact hu'
                  · rw [if_neg htd, look_filt_of]
                    · exact hu'
                    · intro hp
                      obtain ⟨j, hj, h1, h2⟩ := mem_pend.1 hp
                      refine hnp (mem_pend.2 ⟨j, hj, ?_, h2⟩)
                      have hij : i ≠ j := by rintro rfl; rw [hdi] at h2; simp at h2; exact htd h2.symm
                      rw [listed_set hij]; exact h1
              exact Rel.le hle hx
theorem draw_three {ops : Array Oper} {n : NT} (hd : ∀ o ∈ ops, ∀ t, o.dst = some t → t < n.n) (hdown : downB ops = true) {c1 c2 c3 : Nat} {chk1 chka chkb chk3 : List Nat} {ra rb r3 : List Phase} {ev : List Nat} (ha : Lin ops (ev ++ c1 :: c2 :: c3 :: orderOf ra)) (hb : Lin ops (ev ++ c1 :: c3 :: c2 :: orderOf rb)) (h3 : Lin ops (ev ++ c3 :: c1 :: orderOf r3))
    (s1 : ev.all (fun j => chk1.contains j || dir ops c1 j) = true) (sa : sideOk ops ev c2 c3 chka ra = true) (sb : sideOk ops ev c3 c2 chkb rb = true) (s3 : sideOk ops ev c3 c1 chk3 r3 = true) {o1 o2 o3 : Oper} (ho1 : ops[c1]? = some o1) (ho2 : ops[c2]? = some o2) (ho3 : ops[c3]? = some o3) (hw : dir ops c2 c1 = true)
    {K : AS → Prop} {Q : Exit → Act → World → Prop} {H0 : Heap} {w0 : World} (hQ : ∀ A a w, K A → Rel n A a w → Ext H0 w0 A.H w → Q .normal a w) {A : AS}
    (k1 : cgo P ops o1 A (fun A => chks P ops A chk1 ∧ news P ops (fun B => cgo P ops o2 B (dphase P ops K ((chka, [], some c3) :: ra)) ∧ cgo P ops o3 B (dphase P ops K ((chkb, [], some c2) :: rb))) [] A)) (k3 : cgo P ops o3 A (dphase P ops K ((chk3, [], some c1) :: r3))) :
    ∀ (fuel : Nat) (listed : Array Bool) (a : Act) (w : World), toCome ops listed ≤ fuel → DInv P ops n ev (c1 :: c2 :: c3 :: orderOf ra) A listed a w → Ext H0 w0 A.H w → wpAny P .any ops Q fuel listed a w := by
  have mem : ∀ j, j ∈ c1 :: c2 :: c3 :: orderOf ra ↔ j ∈ c3 :: c1 :: orderOf r3 := by
    have e1 := ha.nd; have e2 := h3.nd
    intro j
    constructor
    · intro hj
      have hj' := h3.all j (ha.lt j (List.mem_append_right _ hj))
      rcases List.mem_append.1 hj' with h | h
      · exact absurd rfl ((List.nodup_append.1 e1).2.2 j h j hj)
      · exact h
    · intro hj
      have hj' := ha.all j (h3.lt j (List.mem_append_right _ hj))
      rcases List.mem_append.1 hj' with h | h
      · exact absurd rfl ((List.nodup_append.1 e2).2.2 j h j hj)
      · exact h
  intro fuel
  induction fuel with
  | zero =>
    intro listed a w hf inv hE
    have := inv.later c1 (by simp)
    have := toCome_set inv.size (ha.lt c1 (by simp)) this
    omega
  | succ fuel ih =>
    intro listed a w hf inv hE
    refine ⟨fun hr => ?_, fun i hi => ?_⟩
    · have := inv.later c1 (by simp)
      rw [noReady hdown inv.size hr c1 (ha.lt c1 (by simp))] at this
      cases this
    · obtain ⟨hil, o, ho, _⟩ := mem_ready.1 hi
      have hin : i < ops.size := (Array.getElem?_eq_some_iff.1 ho).1
      have hcount : toCome ops (listed.setIfInBounds i true) ≤ fuel := by
        have := toCome_set inv.size hin hil; omega
      by_cases e1 : i = c1
      · subst e1
        refine draw_stepK hd ha.safe ha.fed hdown ha.lt ha.nd ha.all fuel i chk1 [] (c2 :: c3 :: orderOf ra) ev ev A listed a w rfl (fun j hj => hj) (fun j hj => by cases hj) (List.all_eq_true.1 s1) inv hE (fun B a' w' hB inv' hE' => ?_) ho1 k1 hi
        rw [List.append_nil] at inv'
        exact draw_twoP hd hdown (pst := ev ++ [i]) (fun j hj => List.mem_append_left _ hj) (by simpa using ha) (by simpa using hb) sa sb ho2 ho3 hQ hB.1 hB.2 fuel _ a' w' hcount inv' hE'
      · by_cases e2 : i = c3
        · subst e2
          have inv2 : DInv P ops n ev (i :: c1 :: orderOf r3) A listed a w := ⟨inv.size, fun j hj => inv.later j ((mem j).2 hj), fun j hj h1 h2 => inv.past j hj h1 (fun h => h2 ((mem j).1 h)), inv.cur, inv.rel⟩
          simp only [sideOk, Bool.and_eq_true, List.all_eq_true] at s3
          exact draw_step hd h3.safe h3.fed hdown h3.lt h3.nd h3.all hQ fuel i chk3 [] (some c1) r3 ev ev A listed a w hcount rfl (fun j hj => hj) (fun j hj => by cases hj) s3.1 (by rw [List.append_nil]; exact s3.2) inv2 hE ho3 k3 hi
        · by_cases hr : i ∈ c2 :: orderOf ra
          · exfalso
            have hq : ∃ q, dir ops i q = true ∧ q ∈ c1 :: c2 :: c3 :: orderOf ra := by
              rcases List.mem_cons.1 hr with rfl | hr
              · exact ⟨c1, hw, by simp⟩
              · simp only [sideOk, Bool.and_eq_true, List.all_eq_true] at sa
                obtain ⟨q, hq, hqc⟩ := waits sa.2 i hr
                refine ⟨q, hq, ?_⟩
                rcases hqc with rfl | hqc
                · simp
                · exact List.mem_cons_of_mem _ (List.mem_cons_of_mem _ (List.mem_cons_of_mem _ hqc))
            obtain ⟨q, hq, hqf⟩ := hq
            have g1 := inv.later q hqf
            have g2 := ready_dir inv.size hi hq (ha.lt q (List.mem_append_right _ hqf))
            rw [g1] at g2; cases g2
          · have hfut : i ∉ c1 :: c2 :: c3 :: orderOf ra := by
              intro h
              rcases List.mem_cons.1 h with h | h
              · exact e1 h
              · rcases List.mem_cons.1 h with h | h
                · exact hr (by rw [h]; simp)
                · rcases List.mem_cons.1 h with h | h
                  · exact e2 h
                  · exact hr (List.mem_cons_of_mem _ h)
            have hiev : i ∈ ev := by
              by_cases h : i ∈ ev
              · exact h
              · rw [inv.past i hin h hfut] at hil; cases hil
            have hlooks := looks_pend ha.safe ha.fed ha.lt inv.size (ev := ev) (fun j hj => List.mem_append_left _ hj) (List.mem_append_left _ hiev) hi
            obtain ⟨o', v, d, ho', hod, hv, hlk⟩ := inv.cur i hiev hil
            rw [ho] at ho'; simp only [Option.some.injEq] at ho'; subst ho'
            have hdi : dstOf ops i = some d := by unfold dstOf; rw [ho]; exact hod
            refine fl_run hd inv.rel ho hod hv hlooks fun x w' hx he => ?_
            refine ih _ _ w' hcount ⟨by simp [inv.size], ?_, ?_, ?_, ?_⟩ (hE.trans he)
            · intro j hj
              have hij : i ≠ j := by rintro rfl; exact hfut hj
              rw [listed_set hij]; exact inv.later j hj
            · intro j hj h1 h2
              by_cases hij : i = j
              · subst hij; exact listed_self
              · rw [listed_set hij]; exact inv.past j hj h1 h2
            · intro j hj h1
              by_cases hij : i = j
              · subst hij; rw [listed_self] at h1; cases h1
              · rw [listed_set hij] at h1; exact inv.cur j hj h1
            · have hle : AS.le ⟨filt (pend ops (listed.setIfInBounds i true) ev) A.env, A.H⟩ ⟨(d, v) :: filt (pend ops listed ev) A.env, A.H⟩ := by
                refine ⟨fun t u hu => ?_, fun _ _ h => h⟩
                have hu' : look (filt (pend ops (listed.setIfInBounds i true) ev) A.env) t = some u := hu
                rw [look_filt] at hu'
                split at hu'
                · cases hu'
                · rename_i hnp
                  show look ((d, v) :: filt (pend ops listed ev) A.env) t = some u
                  simp only [look]
                  by_cases htd : t = d
                  · subst htd; rw [hlk] at hu'; rw [if_pos rfl]; exact hu'
                  · rw [if_neg htd, look_filt_of]
                    · exact hu'
                    · intro hp
                      obtain ⟨j, hj, h1, h2⟩ := mem_pend.1 hp
                      refine hnp (mem_pend.2 ⟨j, hj, ?_, h2⟩)
                      have hij : i ≠ j := by rintro rfl; rw [hdi] at h2; simp at h2; exact htd h2.symm
                      rw [listed_set hij]; exact h1
              exact Rel.le hle hx
def threeOk (ops : Array Oper) (new : List Nat) (c1 c2 c3 : Nat) (chk1 chka chkb chk3 : List Nat) (ra rb r3 : List Phase) : Bool :=
  Region.noSelect ops && downB ops && linB ops (new ++ c1 :: c2 :: c3 :: orderOf ra) && linB ops (new ++ c1 :: c3 :: c2 :: orderOf rb) && linB ops (new ++ c3 :: c1 :: orderOf r3) && new.all (isFl ops) && new.all (fun j => chk1.contains j || dir ops c1 j) && sideOk ops new c2 c3 chka ra && sideOk ops new c3 c2 chkb rb && sideOk ops new c3 c1 chk3 r3 && ops[c1]?.isSome && ops[c2]?.isSome && ops[c3]?.isSome && dir ops c2 c1
def three (P : Program) (ops : Array Oper) (I : AS → Prop) (c1 c2 c3 : Nat) (chk1 chka chkb chk3 : List Nat) (ra rb r3 : List Phase) (A : AS) : Prop :=
  dnext P ops I (fun A => chksB P ops A chk1 ∧ both P ops I c2 c3 chka chkb ra rb A) (some c1) A ∧ dnext P ops I (dphaseB P ops I ((chk3, [], some c1) :: r3)) (some c3) A
theorem three_eq {ops : Array Oper} {I : AS → Prop} {c1 c2 c3 : Nat} {chk1 chka chkb chk3 : List Nat} {ra rb r3 : List Phase} {A : AS} : three P ops I c1 c2 c3 chk1 chka chkb chk3 ra rb r3 A =
    (dnext P ops I (fun A => chksB P ops A chk1 ∧ both P ops I c2 c3 chka chkb ra rb A) (some c1) A ∧ dnext P ops I (dphaseB P ops I ((chk3, [], some c1) :: r3)) (some c3) A) := rfl
theorem ARun.draw3B {ops : Array Oper} {n : NT} {Z : AS → Prop} {k : List Item} {A : AS} {id : Nat} (hm : P.follows .mixedOrders = true) (I : AS → Prop) (new : List Nat) (c1 c2 c3 : Nat) (chk1 chka chkb chk3 : List Nat) (ra rb r3 : List Phase) (hok : threeOk ops new c1 c2 c3 chk1 chka chkb chk3 ra rb r3 = true) (hdst : dstOk n.n ops.toList = true)
    (hI : ∀ A, I A → ARun P n Z k A) (h : newsB P ops (three P ops I c1 c2 c3 chk1 chka chkb chk3 ra rb r3) new A) : ARun P n Z (.code (.region id ops true) :: k) A := by
  intro a w r
  simp only [threeOk, Bool.and_eq_true] at hok
  obtain ⟨⟨⟨⟨⟨⟨⟨⟨⟨⟨⟨⟨⟨_, hdown⟩, l1⟩, l2⟩, l3⟩, hnf⟩, s1⟩, sa⟩, sb⟩, s3⟩, is1⟩, is2⟩, is3⟩, hw⟩ := hok
  replace hnf := List.all_eq_true.1 hnf
  obtain ⟨o3, ho3⟩ := Option.isSome_iff_exists.1 is3
  obtain ⟨o1, ho1⟩ := Option.isSome_iff_exists.1 is1
  obtain ⟨o2, ho2⟩ := Option.isSome_iff_exists.1 is2
  have h1 := lin_of l1
  have h2 := lin_of l2
  have h3 := lin_of l3
  refine TWP.region_draw (dstOk_nd hdst) fun t => ?_
  simp only [Region.schedule, hm, Bool.true_or, if_true]
  refine wpAny_sound ops.size t _ a _ ?_
  obtain ⟨B, ⟨k1, k2⟩, hB2, hB3, hB4⟩ := news_run (newsB_news (k' := three P ops I c1 c2 c3 chk1 chka chkb chk3 ra rb r3) (fun _ h => h) h) (fun j hj => hnf j hj) (safe_left _ _ h1.safe)
  have hnone : ∀ j, j < ops.size → (Array.replicate ops.size false).getD j true = false := by
    intro j hj; simp [Array.getD_eq_getD_getElem?, hj]
  have hdr : Rel n A a { w with drawn := w.drawn + 1 } :=
    ⟨r.defers, r.size, fun t v hv => ⟨(r.env t v hv).1, Rep.mono (w := w) (w' := { w with drawn := w.drawn + 1 }) (F := Fr A.H w) (F' := Fr A.H { w with drawn := w.drawn + 1 }) (fun b hb => ⟨hb, rfl⟩) (fun b => Nat.le_refl _) _ _ (r.env t v hv).2⟩,
      fun b rr hb => RootRel.ext (w := w) (H := A.H) ⟨Nat.le_refl _, fun _ _ h => ⟨rfl, h⟩, fun _ => Nat.le_refl _, rfl, rfl, rfl, dr_succ _⟩ rfl (r.heap b rr hb)⟩
  refine draw_three (P := P) (n := n) (fun o ho => dstOk_all hdst o (by simpa using ho)) hdown h1 h2 h3 s1 sa sb s3 ho1 ho2 ho3 hw (K := I) (H0 := A.H) (w0 := { w with drawn := w.drawn + 1 }) ?_ (by
    simp only [dnext, ho1, onO] at k1
    exact cgo_imp k1 fun B hB => ⟨chksB_chks hB.1, dnext_cgo ho2 hB.2.1, dnext_cgo ho3 hB.2.2⟩) (dnext_cgo ho3 k2) ops.size _ a _ ?_ ⟨by simp, ?_, ?_, ?_, ?_⟩ (by rw [hB2]; exact .refl _ _)
  · intro A' a' w' hk r' e
    refine (hI A' hk a' w' r').mono fun j a2 w2 ⟨A2, z, r2, e2⟩ => ⟨A2, z, r2, ?_⟩
    have e0 : Ext A.H w A.H { w with drawn := w.drawn + 1 } := ⟨Nat.le_refl _, fun _ _ h => ⟨rfl, h⟩, fun _ => Nat.le_refl _, rfl, rfl, rfl, dr_succ _⟩
    exact (e0.trans e).trans e2
  · unfold toCome
    exact Nat.le_trans (List.length_filter_le _ _) (by simp)
  · intro j hj; exact hnone j (h1.lt j (List.mem_append_right _ hj))
  · intro j hj h1' h2'
    rcases List.mem_append.1 (h1.all j hj) with h | h
    · exact absurd h h1'
    · exact absurd h h2'
  · intro j hj _; exact hB3 j hj
  · have hle : AS.le ⟨filt (pend ops (Array.replicate ops.size false) new) B.env, B.H⟩ A := by
      refine ⟨fun t u hu => ?_, fun b r hb => by rw [← hB2]; exact hb⟩
      have hu' : look (filt (pend ops (Array.replicate ops.size false) new) B.env) t = some u := hu
      rw [look_filt] at hu'
      split at hu'
      · cases hu'
      · rename_i hnp
        rw [hB4 t (fun x hx e => hnp (mem_pend.2 ⟨x, hx, hnone x (h1.lt x (List.mem_append_left _ hx)), e⟩))] at hu'
        exact hu'
    exact Rel.le hle hdr
end
attribute [go_sem] three_eq
end Go.Abs
