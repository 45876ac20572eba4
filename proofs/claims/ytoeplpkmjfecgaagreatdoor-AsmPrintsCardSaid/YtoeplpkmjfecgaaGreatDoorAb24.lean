import Derived.Test.YtoeplpkmjfecgaaGreatDoorAb23
/- A region that draws its order, whatever its shape: a tree of the orders in which its changes may come. -/
namespace Go.Abs
set_option linter.unusedSimpArgs false
set_option linter.unusedVariables false
section
variable {P : Program}
/-- The changes that may come next, each with what is to be kept and read behind it and what may come then. -/
inductive DT where
  | leaf
  | nil
  | alt (c : Nat) (chk new : List Nat) (t more : DT)
def heads : DT → List Nat
  | .alt c _ _ _ m => c :: heads m
  | _ => []
def dT (P : Program) (ops : Array Oper) (K : AS → Prop) : DT → AS → Prop
  | .leaf, A => K A
  | .nil, _ => True
  | .alt c chk new t more, A => dnext P ops K (fun B => chksB P ops B chk ∧ newsB P ops (dT P ops K t) new B) (some c) A ∧ dT P ops K more A
def linP (ops : Array Oper) (O : List Nat) : Bool := safeW ops O && fedB ops O && O.all (· < ops.size) && decide O.Nodup
def frontB (ops : Array Oper) (pst : List Nat) : DT → Bool
  | .leaf => (List.range ops.size).all pst.contains
  | .nil => false
  | t => (List.range ops.size).all fun j => pst.contains j || (heads t).contains j || (List.range ops.size).any fun q => !pst.contains q && dir ops j q
def altsOk (ops : Array Oper) (pst ev : List Nat) : DT → Bool
  | .leaf => true
  | .nil => true
  | .alt c chk new t more => decide (c < ops.size) && !pst.contains c && new.all (isFl ops) && ev.all (fun j => chk.contains j || dir ops c j) && linP ops (pst ++ c :: new) && frontB ops (pst ++ c :: new) t && altsOk ops (pst ++ c :: new) (ev ++ new) t && altsOk ops pst ev more
def treeOk (ops : Array Oper) (new : List Nat) (T : DT) : Bool := Region.noSelect ops && downB ops && new.all (isFl ops) && linP ops new && frontB ops new T && altsOk ops new new T
structure LinP (ops : Array Oper) (O : List Nat) : Prop where
  safe : safeW ops O = true
  fed : fedB ops O = true
  lt : ∀ j ∈ O, j < ops.size
  nd : O.Nodup
theorem linP_of {ops : Array Oper} {O : List Nat} (h : linP ops O = true) : LinP ops O := by
  simp only [linP, Bool.and_eq_true, List.all_eq_true, decide_eq_true_eq] at h
  obtain ⟨⟨⟨h1, h2⟩, h3⟩, h4⟩ := h
  exact ⟨h1, h2, fun j hj => by simpa using h3 j hj, h4⟩
structure TInv (P : Program) (ops : Array Oper) (n : NT) (pst ev : List Nat) (A : AS) (listed : Array Bool) (a : Act) (w : World) : Prop where
  size : listed.size = ops.size
  later : ∀ j, j < ops.size → j ∉ pst → listed.getD j true = false
  past : ∀ j, j < ops.size → j ∈ pst → j ∉ ev → listed.getD j true = true
  cur : ∀ j ∈ ev, listed.getD j true = false → chkA P ops A j
  rel : Rel n ⟨filt (pend ops listed ev) A.env, A.H⟩ a w
theorem alt_of {ops : Array Oper} {K : AS → Prop} {pst ev : List Nat} {A : AS} {i : Nat} : ∀ {T : DT}, i ∈ heads T → altsOk ops pst ev T = true → dT P ops K T A →
    ∃ chk new t, dnext P ops K (fun B => chksB P ops B chk ∧ newsB P ops (dT P ops K t) new B) (some i) A ∧ i ∉ pst ∧ (∀ j ∈ new, isFl ops j = true) ∧ (∀ j ∈ ev, (chk.contains j || dir ops i j) = true) ∧ LinP ops (pst ++ i :: new) ∧ frontB ops (pst ++ i :: new) t = true ∧ altsOk ops (pst ++ i :: new) (ev ++ new) t = true
  | .leaf, hi, _, _ => by cases hi
  | .nil, hi, _, _ => by cases hi
  | .alt c chk new t more, hi, ho, hd => by
    simp only [altsOk, Bool.and_eq_true, List.all_eq_true] at ho
    obtain ⟨⟨⟨⟨⟨⟨⟨h1, h2⟩, h3⟩, h4⟩, h5⟩, h6⟩, h7⟩, h8⟩ := ho
    rcases List.mem_cons.1 hi with rfl | hi
    · exact ⟨chk, new, t, hd.1, by simpa using h2, h3, h4, linP_of h5, h6, h7⟩
    · exact alt_of hi h8 hd.2
theorem linP_left {ops : Array Oper} {l m : List Nat} (h : LinP ops (l ++ m)) : LinP ops l := ⟨safe_left _ _ h.safe, by
  have := h.fed
  clear h
  induction l with
  | nil => rfl
  | cons x l ih =>
    simp only [List.cons_append, fedB, Bool.and_eq_true, List.all_eq_true] at this ⊢
    exact ⟨fun i hi => this.1 i (List.mem_append_left _ hi), ih this.2⟩, fun j hj => h.lt j (List.mem_append_left _ hj), (List.nodup_append.1 h.nd).1⟩
theorem draw_tree {ops : Array Oper} {n : NT} (hd : ∀ o ∈ ops, ∀ t, o.dst = some t → t < n.n) (hdown : downB ops = true)
    {K : AS → Prop} {Q : Exit → Act → World → Prop} {H0 : Heap} {w0 : World} (hQ : ∀ A a w, K A → Rel n A a w → Ext H0 w0 A.H w → Q .normal a w) :
    ∀ (fuel : Nat) (T : DT) (pst ev : List Nat) (A : AS) (listed : Array Bool) (a : Act) (w : World), toCome ops listed ≤ fuel → (∀ j ∈ ev, j ∈ pst) → LinP ops pst → frontB ops pst T = true → altsOk ops pst ev T = true →
      TInv P ops n pst ev A listed a w → Ext H0 w0 A.H w → dT P ops K T A → wpAny P .any ops Q fuel listed a w := by
  intro fuel
  have allDone : ∀ (T : DT) (pst ev : List Nat) (A : AS) (listed : Array Bool) (a : Act) (w : World), (∀ j ∈ ev, j ∈ pst) → LinP ops pst → frontB ops pst T = true → altsOk ops pst ev T = true →
      TInv P ops n pst ev A listed a w → Ext H0 w0 A.H w → dT P ops K T A → (∀ j, j < ops.size → listed.getD j true = true) → Q .normal a w := by
    intro T pst ev A listed a w hev hlin hfr hok inv hE hT hl
    cases T with
    | nil => cases hfr
    | alt c chk new t more =>
      simp only [altsOk, Bool.and_eq_true, decide_eq_true_eq] at hok
      have h1 := hok.1.1.1.1.1.1.1
      have h2 : c ∉ pst := by simpa using hok.1.1.1.1.1.1.2
      have := inv.later c h1 h2
      rw [hl c h1] at this; cases this
    | leaf =>
      refine hQ A a w hT ?_ hE
      have hp : pend ops listed ev = [] := by
        apply List.eq_nil_iff_forall_not_mem.2
        intro t ht
        obtain ⟨j, hj, h1, _⟩ := mem_pend.1 ht
        rw [hl j (hlin.lt j (hev j hj))] at h1; cases h1
      have := inv.rel
      rw [hp] at this
      have hle : AS.le A ⟨filt [] A.env, A.H⟩ := ⟨fun t v hv => by show look (filt [] A.env) t = some v; rw [look_filt_of (by simp)]; exact hv, fun _ _ h => h⟩
      exact Rel.le hle this
  induction fuel with
  | zero =>
    intro T pst ev A listed a w hf hev hlin hfr hok inv hE hT
    have hl : ∀ j, j < ops.size → listed.getD j true = true := by
      intro j hj
      cases e : listed.getD j true with
      | true => rfl
      | false => have := toCome_set inv.size hj e; omega
    refine ⟨?_, allDone T pst ev A listed a w hev hlin hfr hok inv hE hT hl⟩
    apply List.eq_nil_iff_forall_not_mem.2
    intro j hj
    obtain ⟨h1, o, ho, _⟩ := mem_ready.1 hj
    rw [hl j (Array.getElem?_eq_some_iff.1 ho).1] at h1; cases h1
  | succ fuel ih =>
    intro T pst ev A listed a w hf hev hlin hfr hok inv hE hT
    refine ⟨fun hr => allDone T pst ev A listed a w hev hlin hfr hok inv hE hT (noReady hdown inv.size hr), fun i hi => ?_⟩
    obtain ⟨hil, o, ho, _⟩ := mem_ready.1 hi
    have hin : i < ops.size := (Array.getElem?_eq_some_iff.1 ho).1
    have hcount : toCome ops (listed.setIfInBounds i true) ≤ fuel := by
      have := toCome_set inv.size hin hil; omega
    by_cases hip : i ∈ pst
    · have hiev : i ∈ ev := by
        by_cases h : i ∈ ev
        · exact h
        · rw [inv.past i hin hip h] at hil; cases hil
      have hlooks := looks_pend hlin.safe hlin.fed hlin.lt inv.size (ev := ev) hev hip hi
      obtain ⟨o', v, d, ho', hod, hv, hlk⟩ := inv.cur i hiev hil
      rw [ho] at ho'; simp only [Option.some.injEq] at ho'; subst ho'
      have hdi : dstOf ops i = some d := by unfold dstOf; rw [ho]; exact hod
      refine fl_run hd inv.rel ho hod hv hlooks fun x w' hx he => ?_
      refine ih T pst ev A _ _ w' hcount hev hlin hfr hok ⟨by simp [inv.size], ?_, ?_, ?_, ?_⟩ (hE.trans he) hT
      · intro j hj hjp
        have hij : i ≠ j := by rintro rfl; exact hjp hip
        rw [listed_set hij]; exact inv.later j hj hjp
      · intro j hj h1 h2
        by_cases hij : i = j
        · subst hij; exact listed_self
        · rw [listed_set hij]; exact inv.past j hj h1 h2
      · intro j hj h1
        by_cases hij : i = j
        · subst hij; rw [listed_self] at h1; cases h1
        · rw [listed_set hij] at h1; exact inv.cur j hj h1
      · have hle : AS.le ⟨filt (pend ops (listed.setIfInBounds i true) ev) A.env, A.H⟩ ⟨(d, v) :: filt (pend ops listed ev) A.env, A.H⟩ := by
          refine ⟨fun t u hu => ?_, fun _ _ h => h⟩
          have hu' : look (filt (pend ops (listed.setIfInBounds i true) ev) A.env) t = some u := hu
          rw [look_filt] at hu'
          split at hu'
          · cases hu'
          · rename_i hnp
            show look ((d, v) :: filt (pend ops listed ev) A.env) t = some u
            simp only [look]
            by_cases htd : t = d
            · subst htd; rw [hlk] at hu'; rw [if_pos rfl]; exact hu'
            · rw [if_neg htd, look_filt_of]
              · exact hu'
              · intro hp
                obtain ⟨j, hj, h1, h2⟩ := mem_pend.1 hp
                refine hnp (mem_pend.2 ⟨j, hj, ?_, h2⟩)
                have hij : i ≠ j := by rintro rfl; rw [hdi] at h2; simp at h2; exact htd h2.symm
                rw [listed_set hij]; exact h1
        exact Rel.le hle hx
    · have hih : i ∈ heads T := by
        cases T with
        | leaf =>
          simp only [frontB, List.all_eq_true] at hfr
          have := hfr i (List.mem_range.2 hin)
          exact absurd (by simpa using this) hip
        | nil => cases hfr
        | alt c chk new t more =>
          simp only [frontB, List.all_eq_true] at hfr
          have := hfr i (List.mem_range.2 hin)
          simp only [Bool.or_eq_true, List.any_eq_true, Bool.and_eq_true] at this
          rcases this with (h | h) | ⟨q, hq, h1, h2⟩
          · exact absurd (by simpa using h) hip
          · simpa using h
          · have hqs : q < ops.size := List.mem_range.1 hq
            have g1 := inv.later q hqs (by simpa using h1)
            have g2 := ready_dir inv.size hi h2 hqs
            rw [g1] at g2; cases g2
      obtain ⟨chk, new, t, hcont, _, hnf, hevc, hlin2, hfr2, hok2⟩ := alt_of hih hok hT
      have hlinc : LinP ops (pst ++ [i]) := by
        have h : pst ++ i :: new = (pst ++ [i]) ++ new := by simp
        rw [h] at hlin2; exact linP_left hlin2
      have hlooks := looks_pend hlinc.safe hlinc.fed hlinc.lt inv.size (ev := ev) (fun j hj => List.mem_append_left _ (hev j hj)) (i := i) (by simp) hi
      have hdisj : ∀ j ∈ pst, i ≠ j := by rintro j hj rfl; exact hip hj
      simp only [dnext, ho, onO] at hcont
      refine ch_run hd inv.rel ho hcont hlooks fun v H' a' w' hk hrel hext => ?_
      obtain ⟨hchks, hnews⟩ := hk
      replace hchks := chksB_chks hchks
      replace hnews := newsB_news (k' := dT P ops K t) (fun _ h => h) hnews
      have hsafe_i := safe_right _ _ hlin2.safe
      have hsafe_new := (safeW_cons hsafe_i).2.2
      obtain ⟨B, hB1, hB2, hB3, hB4⟩ := news_run hnews hnf hsafe_new
      have hB2' : B.H = H' := hB2
      have hnew : ∀ j ∈ new, i ≠ j ∧ j ∉ pst ∧ j < ops.size := by
        intro j hj
        have hnd := hlin2.nd
        refine ⟨?_, fun hp => ?_, hlin2.lt j (by simp [hj])⟩
        · rintro rfl; exact (List.nodup_cons.1 (List.nodup_append.1 hnd).2.1).1 hj
        · exact (List.nodup_append.1 hnd).2.2 j hp j (by simp [hj]) rfl
      have hnl : ∀ j ∈ new, (listed.setIfInBounds i true).getD j true = false := fun j hj => by
        obtain ⟨h1, h2, h3⟩ := hnew j hj
        rw [listed_set h1]; exact inv.later j h3 h2
      have apart : ∀ j ∈ ev, ∀ x ∈ i :: new, ∀ d, dstOf ops x = some d → d ∉ looks ops j ∧ dstOf ops j ≠ some d := by
        intro j hj x hx d hxd
        obtain ⟨p1, p2, e⟩ := List.append_of_mem (hev j hj)
        have e' : pst ++ i :: new = p1 ++ j :: (p2 ++ i :: new) := by rw [e]; simp
        exact (safeW_apart hlin2.safe p1 _ j e').2 x (List.mem_append_right _ hx) d hxd
      refine ih t (pst ++ i :: new) (ev ++ new) B _ a' w' hcount ?_ hlin2 hfr2 hok2 ⟨by simp [inv.size], ?_, ?_, ?_, ?_⟩ (by rw [hB2']; exact hE.trans hext) hB1
      · intro j hj
        rcases List.mem_append.1 hj with hj | hj
        · exact List.mem_append_left _ (hev j hj)
        · exact List.mem_append_right _ (List.mem_cons_of_mem _ hj)
      · intro j hj hjp
        simp only [List.mem_append, List.mem_cons, not_or] at hjp
        rw [listed_set (Ne.symm hjp.2.1)]; exact inv.later j hj hjp.1
      · intro j hj h1 h2
        by_cases hij : i = j
        · subst hij; exact listed_self
        · rw [listed_set hij]
          simp only [List.mem_append, List.mem_cons, not_or] at h1 h2
          rcases h1 with h1 | h1 | h1
          · exact inv.past j hj h1 h2.1
          · exact absurd h1.symm hij
          · exact absurd h1 h2.2
      · intro j hj h1
        rcases List.mem_append.1 hj with hj | hj
        · have hw := hevc j hj
          simp only [Bool.or_eq_true] at hw
          have hji : i ≠ j := hdisj j (hev j hj)
          rcases hw with hw | hw
          · refine chkA_congr (A := (⟨A.env, H'⟩ : AS).put o.dst v) hB2 (fun t ht => ?_) (fun d hdj => ?_) (chks_mem hchks j (by simpa using hw))
            · refine hB4 t fun x hx e => ?_
              exact (apart j hj x (List.mem_cons_of_mem _ hx) t e).1 ht
            · refine hB4 d fun x hx e => ?_
              exact (apart j hj x (List.mem_cons_of_mem _ hx) d e).2 hdj
          · rw [listed_set hji, ready_dir inv.size hi hw (hlin.lt j (hev j hj))] at h1
            cases h1
        · exact hB3 j hj
      · have hle : AS.le ⟨filt (pend ops (listed.setIfInBounds i true) (ev ++ new)) B.env, B.H⟩ ((⟨filt (pend ops listed ev) A.env, H'⟩ : AS).put o.dst v) := by
          refine ⟨fun t u hu => ?_, fun b r hb => by rw [← hB2']; exact hb⟩
          have hu' : look (filt (pend ops (listed.setIfInBounds i true) (ev ++ new)) B.env) t = some u := hu
          rw [look_filt] at hu'
          split at hu'
          · cases hu'
          · rename_i hnp
            rw [hB4 t (fun x hx e => hnp (mem_pend.2 ⟨x, List.mem_append_right _ hx, hnl x hx, e⟩))] at hu'
            have base : ∀ (hne : o.dst ≠ some t), look A.env t = some u → look (filt (pend ops listed ev) A.env) t = some u := by
              intro hne hA
              rw [look_filt_of]
              · exact hA
              · intro hp
                obtain ⟨j, hj, h1, h2⟩ := mem_pend.1 hp
                have hji : i ≠ j := hdisj j (hev j hj)
                exact hnp (mem_pend.2 ⟨j, List.mem_append_left _ hj, by rw [listed_set hji]; exact h1, h2⟩)
            cases hod : o.dst with
            | none =>
              rw [hod] at hu' base
              exact base (by simp) hu'
            | some d =>
              rw [hod] at hu' base
              simp only [AS.put, look] at hu' ⊢
              by_cases htd : t = d
              · rw [if_pos htd] at hu' ⊢; exact hu'
              · rw [if_neg htd] at hu' ⊢
                exact base (fun e => htd (Option.some.inj e).symm) hu'
        exact Rel.le hle hrel
theorem drawT_any {ops : Array Oper} {n : NT} {A : AS} {Q : Exit → Act → World → Prop} (I : AS → Prop) (new : List Nat) (T : DT) (hok : treeOk ops new T = true) (hdst : dstOk n.n ops.toList = true)
    (h : newsB P ops (dT P ops I T) new A) {a : Act} {w : World} (r : Rel n A a w) (hQ : ∀ A' a' w', I A' → Rel n A' a' w' → Ext A.H w A'.H w' → Q .normal a' w') :
    wpAny P .any ops Q ops.size (Array.replicate ops.size false) a { w with drawn := w.drawn + 1 } := by
  simp only [treeOk, Bool.and_eq_true] at hok
  obtain ⟨⟨⟨⟨⟨_, hdown⟩, hnf⟩, hl⟩, hfr⟩, halt⟩ := hok
  replace hnf := List.all_eq_true.1 hnf
  have hlin := linP_of hl
  obtain ⟨B, hB1, hB2, hB3, hB4⟩ := news_run (newsB_news (k' := dT P ops I T) (fun _ h => h) h) (fun j hj => hnf j hj) hlin.safe
  have hnone : ∀ j, j < ops.size → (Array.replicate ops.size false).getD j true = false := by
    intro j hj; simp [Array.getD_eq_getD_getElem?, hj]
  have hdr : Rel n A a { w with drawn := w.drawn + 1 } :=
    ⟨r.defers, r.size, fun t v hv => ⟨(r.env t v hv).1, Rep.mono (w := w) (w' := { w with drawn := w.drawn + 1 }) (F := Fr A.H w) (F' := Fr A.H { w with drawn := w.drawn + 1 }) (fun b hb => ⟨hb, rfl⟩) (fun b => Nat.le_refl _) _ _ (r.env t v hv).2⟩,
      fun b rr hb => RootRel.ext (w := w) (H := A.H) ⟨Nat.le_refl _, fun _ _ h => ⟨rfl, h⟩, fun _ => Nat.le_refl _, rfl, rfl, rfl, dr_succ _⟩ rfl (r.heap b rr hb)⟩
  refine draw_tree (P := P) (n := n) (fun o ho => dstOk_all hdst o (by simpa using ho)) hdown (K := I) (H0 := A.H) (w0 := { w with drawn := w.drawn + 1 }) ?_ ops.size T new new B _ a _ ?_ (fun j hj => hj) hlin hfr halt ⟨by simp, ?_, ?_, ?_, ?_⟩ (by rw [hB2]; exact .refl _ _) hB1
  · intro A' a' w' hk r' e
    have e0 : Ext A.H w A.H { w with drawn := w.drawn + 1 } := ⟨Nat.le_refl _, fun _ _ h => ⟨rfl, h⟩, fun _ => Nat.le_refl _, rfl, rfl, rfl, dr_succ _⟩
    exact hQ A' a' w' hk r' (e0.trans e)
  · unfold toCome
    exact Nat.le_trans (List.length_filter_le _ _) (by simp)
  · intro j hj _; exact hnone j hj
  · intro j hj h1 h2; exact absurd h1 h2
  · intro j hj _; exact hB3 j hj
  · have hle : AS.le ⟨filt (pend ops (Array.replicate ops.size false) new) B.env, B.H⟩ A := by
      refine ⟨fun t u hu => ?_, fun b r hb => by rw [← hB2]; exact hb⟩
      have hu' : look (filt (pend ops (Array.replicate ops.size false) new) B.env) t = some u := hu
      rw [look_filt] at hu'
      split at hu'
      · cases hu'
      · rename_i hnp
        rw [hB4 t (fun x hx e => hnp (mem_pend.2 ⟨x, hx, hnone x (hlin.lt x hx), e⟩))] at hu'
        exact hu'
    exact Rel.le hle hdr
/-- All orders come to the same. -/
theorem ARun.drawI {ops : Array Oper} {n : NT} {Z : AS → Prop} {k : List Item} {A : AS} {id : Nat} (hm : P.follows .mixedOrders = true) (I : AS → Prop) (new : List Nat) (T : DT) (hok : treeOk ops new T = true) (hdst : dstOk n.n ops.toList = true)
    (hI : ∀ A, I A → ARun P n Z k A) (h : newsB P ops (dT P ops I T) new A) : ARun P n Z (.code (.region id ops true) :: k) A := by
  intro a w r
  refine TWP.region_draw (dstOk_nd hdst) fun t => ?_
  simp only [Region.schedule, hm, Bool.true_or, if_true]
  refine wpAny_sound ops.size t _ a _ (drawT_any I new T hok hdst h r fun A' a' w' hk r' e => ?_)
  refine (hI A' hk a' w' r').mono fun j a2 w2 ⟨A2, z, r2, e2⟩ => ⟨A2, z, r2, e.trans e2⟩
theorem ARun.drawT {ops : Array Oper} {n : NT} {Z : AS → Prop} {k : List Item} {A : AS} {id : Nat} (hm : P.follows .mixedOrders = true) (new : List Nat) (T : DT) (hok : treeOk ops new T = true) (hdst : dstOk n.n ops.toList = true)
    (h : newsB P ops (dT P ops (ARun P n Z k) T) new A) : ARun P n Z (.code (.region id ops true) :: k) A := ARun.drawI hm _ new T hok hdst (fun _ h => h) h
theorem ARun.drawTI {ops : Array Oper} {n : NT} {Z : AS → Prop} {k : List Item} {A : AS} {id : Nat} (m : Nat) (hm : P.follows .mixedOrders = true) (I : AS → Prop) (new : List Nat) (T : DT) (hok : treeOk (ops.extract 0 m) new T = true) (htl : tailOk ops m = true) (hdst : dstOk n.n ops.toList = true) (hdp : dstOk n.n (ops.extract 0 m).toList = true)
    (hI : ∀ A, I A → aops P ops (ARun P n Z k) (ops.toList.drop (ops.extract 0 m).size) A) (h : newsB P (ops.extract 0 m) (dT P (ops.extract 0 m) I T) new A) : ARun P n Z (.code (.region id ops true) :: k) A :=
  ARun.tail m hm I htl hdst hI fun Q a w r hQ => drawT_any I new T hok hdp h r hQ
variable {ops : Array Oper} {K : AS → Prop} {A : AS}
theorem dT_leaf : dT P ops K .leaf A = K A := id rfl
theorem dT_nil : dT P ops K .nil A = True := id rfl
def dTk (P : Program) (ops : Array Oper) (K : AS → Prop) (chk new : List Nat) (t : DT) (B : AS) : Prop := chksB P ops B chk ∧ newsB P ops (dT P ops K t) new B
theorem dTk_ (chk new : List Nat) (t : DT) : dTk P ops K chk new t A = (chksB P ops A chk ∧ newsB P ops (dT P ops K t) new A) := id rfl
theorem dT_one (c : Nat) (chk new : List Nat) (t : DT) : dT P ops K (.alt c chk new t .nil) A = dnext P ops K (dTk P ops K chk new t) (some c) A := by
  simp only [dT, and_true]; rfl
theorem dT_alt (c : Nat) (chk new : List Nat) (t more : DT) : dT P ops K (.alt c chk new t more) A = (dnext P ops K (dTk P ops K chk new t) (some c) A ∧ dT P ops K more A) := id rfl
end
@[congr] theorem dT_congr {P : Program} {ops : Array Oper} {K : AS → Prop} {t : DT} {A A' : AS} (h : A = A') : dT P ops K t A = dT P ops K t A' := by rw [h]
@[congr] theorem dTk_congr {P : Program} {ops : Array Oper} {K : AS → Prop} {chk new : List Nat} {t : DT} {A A' : AS} (h : A = A') : dTk P ops K chk new t A = dTk P ops K chk new t A' := by rw [h]
attribute [go_sem] dT_leaf dT_nil dT_one dT_alt dTk_
end Go.Abs
