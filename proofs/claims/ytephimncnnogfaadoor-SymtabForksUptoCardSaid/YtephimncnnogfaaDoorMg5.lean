import Derived.Test.YtephimncnnogfaaDoorMg4
import Derived.Test.YtephimncnnogfaaDoorAb28
import Derived.Shelf.SlLaysF0
import Derived.Ground.SlsfProg
import Derived.Test.YtephimncnnogfaaDoorMg1
import Derived.Sort.Walk0
import Derived.Lib.ItoaNum
/- What modules export: Hold and Drop. -/
namespace Go.Abs
set_option linter.unusedSimpArgs false
set_option linter.unusedVariables false
set_option maxHeartbeats 4000000
open Go.Proofs Go.Nm Go.Wd
set_option linter.unusedVariables false
set_option linter.unusedSectionVars false
set_option maxRecDepth 8000
variable {H : Heap}
def Sym.cntE (S : Sym) (by_ : Int) (names : List ByteArray) : Int := if decide (0 ≤ fi S.lost names) then 8 else (cntP by_ names S.ents).1
def Sym.cnt (S : Sym) (by_ : Int) (names : List ByteArray) : Sym := if S.cntE by_ names = 0 then ⟨S.mods, (cntP by_ names S.ents).2⟩ else S
theorem Sym.cnt_no {S : Sym} {by_ : Int} {names : List ByteArray} (h : S.cntE by_ names ≠ 0) : S.cnt by_ names = S := if_neg h
theorem oc_makeE {d : Option Tmp} {ty : TypeId} {pos : String} {aft : Array Edge} {g : Option (Nat × Bool)} {t : TypeId} : OC Tryd.prog ⟨d, .makeMap t none, ty, pos, aft, g⟩ [] H (fun r H' => ∃ b, H b = none ∧ r = .s (.map (some b)) ∧ H' = upd H b (entR [])) := oc_makeMap
theorem oc_ent1 {d : Option Tmp} {ty : TypeId} {pos : String} {aft : Array Edge} {g : Option (Nat × Bool)} {s x : Operand} {eb : Nat} {l : List (ByteArray × Ent)} (hm : H eb = some (entR l)) {k : ByteArray} {o : Ent} (ho : (getE k l).getD Ent.zero = o) :
    OC Tryd.prog ⟨d, .lookup 56 s x false, ty, pos, aft, g⟩ [.s (.map (some eb)), .s (.string k)] H (fun r H' => r = .agg o.enc ∧ H' = H) := by
  have h := oc_lookup (d := d) (ty := ty) (pos := pos) (aft := aft) (g := g) (s := s) (x := x) (c := false) strK um56 zt33 hm (k := k) (kT := .s (.string k)) rep_s
  rw [getK_ent] at h
  refine OC.mono h fun r H' hr => ⟨hr.1.trans ?_, hr.2⟩
  subst ho
  cases getE k l <;> rfl
theorem cnt_frame {b nb eb : Nat} {B D E : Root} (hb : H b = none) (hn : H nb = none) (h1 : b ≠ eb) (h2 : nb ≠ eb) : Sub (upd H eb E) (upd (upd (upd H b B) nb D) eb E) := by
  intro p r hp
  have q1 : p ≠ b := by
    rintro rfl
    simp only [upd_eq, if_neg h1] at hp; rw [hb] at hp; cases hp
  have q2 : p ≠ nb := by
    rintro rfl
    simp only [upd_eq, if_neg h2] at hp; rw [hn] at hp; cases hp
  simp only [upd_eq, if_neg q1, if_neg q2] at hp ⊢; exact hp
set_option maxHeartbeats 4000000 in
theorem count_c {t mb eb : Nat} {S : Sym} (hS : SymAt H t mb eb S) (n2 : t ≠ eb) (hf : LFit (S.ents.map (·.2))) (hk : (S.ents.map (·.1)).Nodup) (names : List ByteArray) (hl : names.length < 4611686018427387904) {by_ : Int} (hby : by_ = 1 ∨ by_ = -1) :
    AC Tryd.prog 38 [.s (.pointer (some ⟨t, 0, none⟩)), .vs 1 (names.map s1), .s (.int .i64 by_)] H (fun r H' => r = .s (.int .i64 (S.cntE by_ names)) ∧ H' = upd H eb (entR (S.cnt by_ names).ents)) := by
  refine AC.body Tryd.func38 rfl rfl (n := 61) (res := [.tmp 6]) rfl rfl (by simp) ?_
  simp only [ent]
  have hsame : upd H eb (entR S.ents) = H := upd_same hS.ent
  have hE : S.cntE by_ names = if decide (0 ≤ fi S.lost names) then 8 else (cntP by_ names S.ents).1 := rfl
  replace hE := later hE
  replace hsame := later hsame
  replace hf := later hf
  replace hby := later hby
  (repeat' (first | refine wk ?_ | refine wk2 ?_ ?_ | with_reducible refine wkF fun _ _ _ => ?_ | with_reducible intro _ | exact ag | fail))
  rename_i b hb hbn
  obtain ⟨h1, h2, h3⟩ := hS
  have hbt : b ≠ t := fun q => by rw [q, h1] at hb; cases hb
  have hbm : b ≠ mb := fun q => by rw [q, h2] at hb; cases hb
  have hbe : b ≠ eb := fun q => by rw [q, h3] at hb; cases hb
  have hat : SymAt (upd H b (.cells [.s (.pointer (some ⟨t, 0, none⟩))])) t mb eb S := ⟨by rw [upd_eq, if_neg hbt.symm]; exact h1, by rw [upd_eq, if_neg hbm.symm]; exact h2, by rw [upd_eq, if_neg hbe.symm]; exact h3⟩
  have C := cofS_c names hl 50 [.s (.pointer (some ⟨b, 0, none⟩))] S.lost (upd H b (.cells [.s (.pointer (some ⟨t, 0, none⟩))])) (fun x _ => cnt1_c hat (upd_self _ _ _) x)
  cases q1 : decide (0 ≤ fi S.lost names) with
  | true =>
    have hE := hE.go
    rw [q1, if_pos rfl] at hE
    rw [Sym.cnt_no (S := S) (names := names) (by_ := by_) (by rw [hE]; decide), hE, hsame.go]
    rw [q1] at C
    clear q1
    (repeat' (first | refine wk ?_ | refine wk2 ?_ ?_ | with_reducible refine wkF fun _ _ _ => ?_ | with_reducible intro _ | refine Calling.eq (C) ?_ | exact ag | fail))
    exact fin0
  | false =>
    have hE := hE.go
    rw [q1, if_neg (by decide)] at hE
    rw [q1] at C
    have hno : ∀ s ∈ names, ∃ e, getE s S.ents = some e := fun s hs => by
      have := fi_nn q1 s hs
      unfold Sym.lost at this
      simp at this
      exact Option.isSome_iff_exists.1 (by simpa using this)
    replace hno := later hno
    replace hE := later hE
    replace hat := later hat
    clear q1
    (repeat' (first | refine wk ?_ | refine wk2 ?_ ?_ | with_reducible refine wkF fun _ _ _ => ?_ | with_reducible intro _ | refine Calling.eq (C) ?_ | refine Doing.fresh (oc_makeE) fun _ _ _ => ?_ | exact ag | fail))
    rename_i nb hnb hnbn
    have n1b := (hnbn b (by rw [upd_self]; rfl)).1
    have hnt := (hnbn t (by rw [upd_eq, if_neg hbt.symm, h1]; rfl)).1
    have hnm := (hnbn mb (by rw [upd_eq, if_neg hbm.symm, h2]; rfl)).1
    have hne := (hnbn eb (by rw [upd_eq, if_neg hbe.symm, h3]; rfl)).1
    have hn0 := nu1 hnb
    clear C hnbn
    refine ARun.rounds (fun st : Nat × Ents => ⟨[(2, .s (.int .i64 by_)), (3, .s (.pointer (some ⟨b, 0, none⟩))), (6, .s (.int .i64 0)), (7, .s (.map (some nb))), (18, .vs 1 (names.map s1)), (19, .s (.int .i64 names.length)), (20, .s (.int .i64 (st.1 : Nat)))],
        upd (upd H b (.cells [.s (.pointer (some ⟨t, 0, none⟩))])) nb (entR st.2)⟩) (fun st => names.length - st.1)
      (fun st => st.1 ≤ names.length ∧ (st.2.map (·.1)).Nodup ∧ (∀ k ∈ st.2.map (·.1), k ∈ S.ents.map (·.1)) ∧ LFit ((updE st.2 S.ents).map (·.2)) ∧ cntP by_ names S.ents = cntP by_ (names.drop st.1) (updE st.2 S.ents)) ?_ (0, []) ⟨by simp, by simp, by simp, by rw [updE_nil]; exact hf.go, by rw [updE_nil]; rfl⟩ ?_
    · rintro ⟨i, D⟩ ⟨hi, hd, hsub, hfit, hcnt⟩ next
      simp only [] at hi hd hsub hfit hcnt ⊢
      replace hd := later hd
      replace hsub := later hsub
      replace hfit := later hfit
      by_cases hlt : i < names.length
      · have e1 : (i : Int) < names.length := by omega
        have e2 : (0 : Int) ≤ i := by omega
        obtain ⟨s, hx⟩ := at_ hlt
        have hx1 := vget s1 hx
        rw [s1_def] at hx1
        have hw := w64s (i := i) (by omega)
        obtain ⟨e0, he0⟩ := hno.go s (List.mem_of_getElem? hx)
        have hsk : s ∈ S.ents.map (·.1) := getE_mem.1 (by rw [he0]; rfl)
        have hdrop : names.drop i = s :: names.drop (i + 1) := by
          obtain ⟨hi2, e⟩ := List.getElem?_eq_some_iff.1 hx
          rw [List.drop_eq_getElem_cons hi2, e]
        obtain ⟨e, he⟩ : ∃ e, getE s (updE D S.ents) = some e := ⟨(getE s D).getD e0, by rw [getE_upd, he0]; rfl⟩
        have hee : (getE s D).getD e0 = e := by rw [getE_upd, he0] at he; exact Option.some.inj he
        have hrf : 0 ≤ e.rf ∧ e.rf ≤ 8 := by
          have hm := (getE_some (by rw [updE_keys]; exact hk)).1 he
          exact hfit.go.rf _ (List.mem_map.2 ⟨_, hm, rfl⟩)
        have hwr : IntKind.i64.wrap (e.rf + by_) = e.rf + by_ := w64 (by rcases hby.go with h | h <;> omega) (by rcases hby.go with h | h <;> omega)
        rw [hdrop] at hcnt
        rw [cntP_cons, refP_bump he] at hcnt
        replace hE' := hE.go
        have ed : e.enc = [.s (.string e.nm), .s (.string e.md), .s (.int .i64 e.gt), .s (.int .i64 e.ix), .s (.int .i64 e.rf)] := rfl
        have ea : (e.add by_).enc = [.s (.string e.nm), .s (.string e.md), .s (.int .i64 e.gt), .s (.int .i64 e.ix), .s (.int .i64 (e.rf + by_))] := rfl
        replace hE' := later hE'
        clear hdrop hx
        replace he := later he
        replace hsk := later hsk
        cases hg : getE s D with
        | some e9 =>
          obtain rfl : e9 = e := by rw [hg] at hee; exact hee
          have hqD : (getE s D).isSome = true := by rw [hg]; rfl
          have hoD : (getE s D).getD Ent.zero = e9 := by rw [hg]; rfl
          have hE' := hE'.go
          clear hg hee he0
          cases qa : decide (8 < e9.rf + by_) with
          | true =>
            rw [qa, if_pos rfl] at hcnt
            replace hE' : S.cntE by_ names = 25 := by rw [hE', hcnt]
            rw [Sym.cnt_no (S := S) (names := names) (by_ := by_) (by rw [hE']; decide), hE', hsame.go]
            clear hcnt
            (repeat' (first | refine wk ?_ | refine wk2 ?_ ?_ | with_reducible refine wkF fun _ _ _ => ?_ | with_reducible intro _ | refine Doing.eq (oc_ent (l := D) (ag) hqD hoD) ?_ | exact ag | fail))
            exact fin0
          | false =>
            rw [qa, if_neg (by decide)] at hcnt
            cases qb : decide (e9.rf + by_ < 0) with
            | true =>
              rw [qb, if_pos rfl] at hcnt
              replace hE' : S.cntE by_ names = 2 := by rw [hE', hcnt]
              rw [Sym.cnt_no (S := S) (names := names) (by_ := by_) (by rw [hE']; decide), hE', hsame.go]
              clear hcnt
              (repeat' (first | refine wk ?_ | refine wk2 ?_ ?_ | with_reducible refine wkF fun _ _ _ => ?_ | with_reducible intro _ | refine Doing.eq (oc_ent (l := D) (ag) hqD hoD) ?_ | exact ag | fail))
              exact fin0
            | false =>
              rw [qb, if_neg (by decide)] at hcnt
              have nx := next.go (i + 1, putE s (e9.add by_) D) ⟨by simp only []; omega, putE_nodup hd.go, putE_sub hsub.go hsk.go, by
                rw [upd_bump hk he.go]
                exact bump_fit (by rw [updE_keys]; exact hk) hfit.go he.go (by simpa using qb) (by simpa using qa), by rw [upd_bump hk he.go]; exact hcnt⟩ (by simp only []; omega)
              simp only [] at nx
              replace nx := later nx
              clear hcnt hE'
              (repeat' (first | refine wk ?_ | refine wk2 ?_ ?_ | with_reducible refine wkF fun _ _ _ => ?_ | with_reducible intro _ | refine Doing.eq (oc_ent (l := D) (ag) hqD hoD) ?_ | refine Doing.eq (oc_putEnt (l := D) (e := e9.add by_) (ag)) ?_ | exact ag | fail))
              exact ARun.weaken nx.go (leK (by exact sb))
        | none =>
          obtain rfl : e0 = e := by rw [hg] at hee; exact hee
          have hqD : (getE s D).isSome = false := by rw [hg]; rfl
          have hoD : (getE s D).getD Ent.zero = Ent.zero := by rw [hg]; rfl
          have ho1 : (getE s S.ents).getD Ent.zero = e0 := by rw [he0]; rfl
          have z : Ent.zero.enc = [.s (.string ByteArray.empty), .s (.string ByteArray.empty), .s (.int .i64 0), .s (.int .i64 0), .s (.int .i64 0)] := rfl
          have hE' := hE'.go
          clear hg hee he0
          cases qa : decide (8 < e0.rf + by_) with
          | true =>
            rw [qa, if_pos rfl] at hcnt
            replace hE' : S.cntE by_ names = 25 := by rw [hE', hcnt]
            rw [Sym.cnt_no (S := S) (names := names) (by_ := by_) (by rw [hE']; decide), hE', hsame.go]
            clear hcnt
            (repeat' (first | refine wk ?_ | refine wk2 ?_ ?_ | with_reducible refine wkF fun _ _ _ => ?_ | with_reducible intro _ | refine Doing.eq (oc_ent (l := D) (ag) hqD hoD) ?_ | refine Doing.eq (oc_ent1 (l := S.ents) (ag) ho1) ?_ | exact ag | fail))
            exact fin0
          | false =>
            rw [qa, if_neg (by decide)] at hcnt
            cases qb : decide (e0.rf + by_ < 0) with
            | true =>
              rw [qb, if_pos rfl] at hcnt
              replace hE' : S.cntE by_ names = 2 := by rw [hE', hcnt]
              rw [Sym.cnt_no (S := S) (names := names) (by_ := by_) (by rw [hE']; decide), hE', hsame.go]
              clear hcnt
              (repeat' (first | refine wk ?_ | refine wk2 ?_ ?_ | with_reducible refine wkF fun _ _ _ => ?_ | with_reducible intro _ | refine Doing.eq (oc_ent (l := D) (ag) hqD hoD) ?_ | refine Doing.eq (oc_ent1 (l := S.ents) (ag) ho1) ?_ | exact ag | fail))
              exact fin0
            | false =>
              rw [qb, if_neg (by decide)] at hcnt
              have nx := next.go (i + 1, putE s (e0.add by_) D) ⟨by simp only []; omega, putE_nodup hd.go, putE_sub hsub.go hsk.go, by
                rw [upd_bump hk he.go]
                exact bump_fit (by rw [updE_keys]; exact hk) hfit.go he.go (by simpa using qb) (by simpa using qa), by rw [upd_bump hk he.go]; exact hcnt⟩ (by simp only []; omega)
              simp only [] at nx
              replace nx := later nx
              clear hcnt hE'
              (repeat' (first | refine wk ?_ | refine wk2 ?_ ?_ | with_reducible refine wkF fun _ _ _ => ?_ | with_reducible intro _ | refine Doing.eq (oc_ent (l := D) (ag) hqD hoD) ?_ | refine Doing.eq (oc_ent1 (l := S.ents) (ag) ho1) ?_ | refine Doing.eq (oc_putEnt (l := D) (e := e0.add by_) (ag)) ?_ | exact ag | fail))
              exact ARun.weaken nx.go (leK (by exact sb))
      · have e1 : decide ((i : Int) < names.length) = false := by simp; omega
        obtain rfl : i = names.length := by omega
        rw [List.drop_length] at hcnt
        have hE' := hE.go
        rw [hcnt] at hE'
        have hE2 : S.cntE by_ names = 0 := hE'
        have hr : S.cnt by_ names = ⟨S.mods, updE D S.ents⟩ := by
          have : S.cnt by_ names = ⟨S.mods, (cntP by_ names S.ents).2⟩ := if_pos hE2
          rw [this, hcnt]; rfl
        rw [hE2, hr]
        have Q := copyE_c (H := upd (upd H b (.cells [.s (.pointer (some ⟨t, 0, none⟩))])) nb (entR D)) (eb := eb) (nb := nb) (ents := S.ents) (D := D) (by rw [upd_eq, if_neg (by rw [hne]; exact id), upd_eq, if_neg hbe.symm]; exact h3) (upd_self _ _ _) hk hd.go hsub.go (fun q => by rw [q] at hne; simp at hne)
        clear hcnt hE2 hr next
        (repeat' (first | refine wk ?_ | refine wk2 ?_ ?_ | with_reducible refine wkF fun _ _ _ => ?_ | with_reducible intro _ | refine Calling.eq (Q) ?_ | exact ag | fail))
        exact Fin.plain agr (cnt_frame hb hn0 hbe (fun q => by rw [q] at hne; simp at hne)) ⟨rfl, rfl⟩
    · exact leK (Sub.refl _)
end Go.Abs
/- What modules export, by definition: Refs, Remove. -/
namespace Go.Abs
set_option linter.unusedSimpArgs false
set_option linter.unusedVariables false
set_option maxHeartbeats 4000000
open Go.Proofs Go.Nm Go.Wd
set_option linter.unusedVariables false
set_option linter.unusedSectionVars false
set_option maxRecDepth 8000
variable {H : Heap}
theorem sumR_snoc {md : ByteArray} {l : List Ent} {i : Nat} {x : Ent} (h : l[i]? = some x) : sumR md (l.take (i + 1)) = sumR md (l.take i) + refE md x := by
  rw [List.take_add_one, h, Option.toList_some, sumR_app]; simp [sumR]
theorem rrefs_c (R : RSym) (hR : R.ok) (hf : LFit R.l) (md : ByteArray) (H : Heap) : AC Tryd.prog 34 [R.tv, .s (.string md)] H (fun r H' => r = .s (.int .i64 (sumR md R.l)) ∧ H' = H) := by
  refine AC.body Tryd.func34 rfl rfl (n := 31) (res := [.tmp 4]) rfl rfl (by simp) ?_
  simp only [ent]
  simp only [RSym.tv_def]
  have hl := hR.2
  replace hf := later hf
  clear hR
  (repeat' (first | refine wk ?_ | refine wk2 ?_ ?_ | with_reducible refine wkF fun _ _ _ => ?_ | with_reducible intro _ | exact ag | fail))
  rename_i v hv hvn
  refine ARun.rounds (fun i : Nat => ⟨[(1, .s (.string md)), (2, .s (.pointer (some ⟨v, 0, none⟩))), (5, .s (.int .i64 (sumR md (R.l.take i)))), (6, .s (.int .i64 i))], upd H v (.cells [.vs 1 (R.mods.map s1), .vs 5 (R.l.map Ent.enc)])⟩) (fun i => R.l.length - i) (fun i => i ≤ R.l.length) ?_ 0 (by omega) ?_
  · rintro i hi next
    by_cases hlt : i < R.l.length
    · have h1 : (i : Int) < R.l.length := by omega
      have h2 : (0 : Int) ≤ i := by omega
      obtain ⟨x, hx⟩ := at_ hlt
      have hx1 := vget Ent.enc hx
      rw [Ent.enc_def] at hx1
      have hw := w64s (i := i) (by omega)
      have nx := next.go (i + 1) (by omega) (by omega)
      rw [sumR_snoc hx] at nx
      have hs := sumR_le (md := md) (l := R.l.take i) fun e he => hf.go.rf e (List.mem_of_mem_take he)
      have hxr := hf.go.rf x (List.mem_of_getElem? hx)
      have hln := hf.go.ll
      have htl : (R.l.take i).length ≤ R.l.length := by rw [List.length_take]; omega
      have hw2 := w64 (x := sumR md (R.l.take i) + x.rf) (by omega) (by omega)
      unfold refE at nx
      generalize sumR md (R.l.take i) = acc at *
      replace nx := later nx
      clear next hx hs hxr hln htl
      cases hb : (x.md.toList == md.toList) with
      | true =>
        have hmd : x.md = md := by rw [str_eq] at hb; simpa using hb
        rw [if_pos hmd] at nx
        clear hmd
        (repeat' (first | refine wk ?_ | refine wk2 ?_ ?_ | with_reducible refine wkF fun _ _ _ => ?_ | with_reducible intro _ | exact ag | fail))
        exact ARun.weaken nx.go (leK (Sub.refl _))
      | false =>
        have hmd : ¬ x.md = md := by rw [str_eq] at hb; simpa using hb
        rw [if_neg hmd, Int.add_zero] at nx
        clear hmd hw2
        (repeat' (first | refine wk ?_ | refine wk2 ?_ ?_ | with_reducible refine wkF fun _ _ _ => ?_ | with_reducible intro _ | exact ag | fail))
        exact ARun.weaken nx.go (leK (Sub.refl _))
    · have h1 : decide ((i : Int) < R.l.length) = false := by simp; omega
      obtain rfl : i = R.l.length := by omega
      rw [List.take_length]
      clear next
      generalize sumR md R.l = acc
      (repeat' (first | refine wk ?_ | refine wk2 ?_ ?_ | with_reducible refine wkF fun _ _ _ => ?_ | with_reducible intro _ | exact ag | fail))
      exact fin0
  · have e0 : sumR md (R.l.take 0) = 0 := rfl
    rw [e0]
    exact leK (Sub.refl _)
theorem own_store {K : Heap} {x b : Nat} {C C' : Root} {L : List (List TV)} (hb : L ≠ [] → b ≠ x) : upd (ownH (upd K x C) b L) x C' = ownH (upd K x C') b L := by
  by_cases h : L = []
  · rw [h, ownH_nil, ownH_nil, upd_upd]
  · have n := hb h
    rw [ownH_ne' h, ownH_ne' h]
    funext p
    simp only [upd_eq]
    by_cases q : p = x
    · subst q; rw [if_pos rfl, if_neg n.symm, if_pos rfl]
    · rw [if_neg q, if_neg q, if_neg q]
def RSym.remE (R : RSym) (md : ByteArray) : Int := if R.has md then if decide (0 < sumR md R.l) then 26 else 0 else 8
def RSym.rem (R : RSym) (md : ByteArray) : RSym := if R.remE md = 0 then ⟨R.mods.filter fun s => !(s.toList == md.toList), R.l.filter fun e => !mdB md e⟩ else R
theorem RSym.rem_no {R : RSym} {md : ByteArray} (h : R.remE md ≠ 0) : R.rem md = R := if_neg h
theorem filter_snoc {α : Type} {p : α → Bool} {l : List α} {i : Nat} {x : α} (h : l[i]? = some x) : (l.take (i + 1)).filter p = if p x then (l.take i).filter p ++ [x] else (l.take i).filter p := by
  rw [List.take_add_one, h, Option.toList_some, List.filter_append]
  by_cases q : p x = true
  · rw [if_pos q, List.filter_cons_of_pos q, List.filter_nil]
  · rw [if_neg q, List.filter_cons_of_neg q, List.filter_nil, List.append_nil]
set_option maxHeartbeats 2000000 in
theorem rremove_c (R : RSym) (hR : R.fit) (hf : LFit R.l) (md : ByteArray) (H : Heap) : AC Tryd.prog 31 [R.tv, .s (.string md)] H (fun r H' => r = .tup [(R.rem md).tv, .s (.int .i64 (R.remE md))] ∧ H' = H) := by
  refine AC.body Tryd.func31 rfl rfl (n := 71) (res := [.cell 4 40, .tmp 5]) rfl rfl (by simp) ?_
  simp only [ent]
  have T := fun H => rhas_c R hR.ok md H
  have F := fun H => rrefs_c R hR.ok hf md H
  have hE : R.remE md = if R.has md then if decide (0 < sumR md R.l) then 26 else 0 else 8 := rfl
  have eh : R.has md = decide (0 ≤ fi (fun s : ByteArray => s.toList == md.toList) R.mods) := rfl
  rw [← eh] at T
  simp only [RSym.tv_def] at T F ⊢
  clear eh hf
  replace hR := later hR
  generalize sumR md R.l = n0 at *
  cases q1 : R.has md with
  | false =>
    rw [q1, if_neg (by decide)] at hE
    rw [RSym.rem_no (R := R) (md := md) (by rw [hE]; decide), hE]
    rw [q1] at T
    clear hE q1 F
    (repeat' (first | refine wk ?_ | refine wk2 ?_ ?_ | with_reducible refine wkF fun _ _ _ => ?_ | with_reducible intro _ | refine Calling.eq (T _) ?_ | exact ag | fail))
    exact fin0
  | true =>
    rw [q1, if_pos rfl] at hE
    rw [q1] at T
    cases q2 : decide (0 < n0) with
    | true =>
      rw [q2, if_pos rfl] at hE
      rw [RSym.rem_no (R := R) (md := md) (by rw [hE]; decide), hE]
      clear hE q1
      (repeat' (first | refine wk ?_ | refine wk2 ?_ ?_ | with_reducible refine wkF fun _ _ _ => ?_ | with_reducible intro _ | refine Calling.eq (T _) ?_ | refine Calling.eq (F _) ?_ | exact ag | fail))
      exact fin0
    | false =>
      rw [q2, if_neg (by decide)] at hE
      have hr : R.rem md = ⟨R.mods.filter fun s => !(s.toList == md.toList), R.l.filter fun e => !mdB md e⟩ := if_pos hE
      rw [hE, hr]
      clear hE q1 hr
      (repeat' (first | refine wk ?_ | refine wk2 ?_ ?_ | with_reducible refine wkF fun _ _ _ => ?_ | with_reducible intro _ | refine Calling.eq (T _) ?_ | refine Calling.eq (F _) ?_ | exact ag | fail))
      rename_i v hv hvn w hw hwn x hx hxn
      have kv : upd (upd H v (.cells [.vs 1 (R.mods.map s1), .vs 5 (R.l.map Ent.enc)])) w (.cells [.nils, .nils]) v = some (.cells [.vs 1 (R.mods.map s1), .vs 5 (R.l.map Ent.enc)]) := by rw [upd_eq, if_neg (by rw [(hwn v (by rw [upd_self]; rfl)).1]; exact id), upd_self]
      have kw : upd (upd H v (.cells [.vs 1 (R.mods.map s1), .vs 5 (R.l.map Ent.enc)])) w (.cells [.nils, .nils]) w = some (.cells [.nils, .nils]) := upd_self _ _ _
      have hsub : Sub H (upd (upd H v (.cells [.vs 1 (R.mods.map s1), .vs 5 (R.l.map Ent.enc)])) w (.cells [.nils, .nils])) := sb
      have hw0 := nu1 hw
      generalize upd (upd H v (.cells [.vs 1 (R.mods.map s1), .vs 5 (R.l.map Ent.enc)])) w (.cells [.nils, .nils]) = K at *
      clear hv hvn hw hwn
      have hxv : (v = x) = False ∧ (x = v) = False := hxn v (by rw [kv]; rfl)
      have hxw : (w = x) = False ∧ (x = w) = False := hxn w (by rw [kw]; rfl)
      clear hxn
      replace hsub := later hsub
      have hml := hR.go.ml
      have hll := hR.go.ll
      clear T F
      refine ARun.rounds (fun st : Nat × Nat => ⟨[(1, .s (.string md)), (2, .s (.pointer (some ⟨v, 0, none⟩))), (4, .s (.pointer (some ⟨w, 0, none⟩))), (5, .s (.int .i64 0)), (6, .s (.pointer (some ⟨x, 0, none⟩))), (7, .s (.int .i64 (st.1 : Nat)))],
          ownH (upd K x (.cells [ownT st.2 1 (((R.mods.take st.1).filter fun s => !(s.toList == md.toList)).map s1), .nils])) st.2 (((R.mods.take st.1).filter fun s => !(s.toList == md.toList)).map s1)⟩) (fun st => R.mods.length - st.1)
        (fun st => st.1 ≤ R.mods.length ∧ ((((R.mods.take st.1).filter fun s => !(s.toList == md.toList)).map s1) ≠ [] → K st.2 = none ∧ st.2 ≠ x)) ?_ (0, 0) ⟨by simp, fun h => absurd rfl h⟩ ?_
      · rintro ⟨i, b⟩ ⟨hi, hb⟩ next
        simp only [] at hi hb ⊢
        by_cases hlt : i < R.mods.length
        · have e1 : (i : Int) < R.mods.length := by omega
          have e2 : (0 : Int) ≤ i := by omega
          obtain ⟨y, hy⟩ := at_ hlt
          have hy1 := vget s1 hy
          rw [s1_def] at hy1
          have hw6 := w64s (i := i) (by omega)
          have nx := fun b' hb' => next.go (i + 1, b') ⟨by simp only []; omega, hb'⟩ (by simp only []; omega)
          simp only [filter_snoc hy] at nx
          have hlen : ((R.mods.take i).filter fun s => !(s.toList == md.toList)).length ≤ 10000 := Nat.le_trans (List.length_filter_le _ _) (by simp; omega)
          generalize ((R.mods.take i).filter fun s => !(s.toList == md.toList)) = L at *
          clear next hy
          have f1 := ownH_keep (c := x) (r := .cells [ownT b 1 (L.map s1), .nils]) (K := upd K x (.cells [ownT b 1 (L.map s1), .nils])) (b := b) (L := L.map s1) (fun h => by rw [upd_eq, if_neg (hb h).2]; exact (hb h).1) (upd_self _ _ _)
          have f2 := ownH_keep (c := v) (r := .cells [.vs 1 (R.mods.map s1), .vs 5 (R.l.map Ent.enc)]) (K := upd K x (.cells [ownT b 1 (L.map s1), .nils])) (b := b) (L := L.map s1) (fun h => by rw [upd_eq, if_neg (hb h).2]; exact (hb h).1) (by rw [upd_eq, if_neg (by rw [hxv.1]; exact id)]; exact kv)
          cases hq : (y.toList == md.toList) with
          | true =>
            simp only [hq, Bool.not_true, Bool.false_eq_true, if_false] at nx
            have nx := nx b hb
            replace nx := later nx
            replace hb := later hb
            clear kv kw
            (repeat' (first | refine wk ?_ | refine wk2 ?_ ?_ | with_reducible refine wkF fun _ _ _ => ?_ | with_reducible intro _ | exact ag | fail))
            exact ARun.weaken nx.go (leK (Sub.refl _))
          | false =>
            simp only [hq, Bool.not_false, if_true, List.map_append, List.map_cons, List.map_nil] at nx
            replace nx := later nx
            have hb2 : L.map s1 ≠ [] → upd K x (.cells [ownT b 1 (L.map s1), .nils]) b = none := fun h => by rw [upd_eq, if_neg (hb h).2]; exact (hb h).1
            replace hb2 := later hb2
            replace hb := later hb
            clear kw
            (repeat' (first | refine wk ?_ | refine wk2 ?_ ?_ | with_reducible refine wkF fun _ _ _ => ?_ | with_reducible intro _ | exact ag | fail))
            refine ARun.drawT mixed [0, 1, 2, 3, 4, 5, 6] (.alt 7 [0, 1, 2, 3, 4, 5] [] (.alt 8 [0, 2, 3, 4, 5, 6] [9] (.alt 10 [] [] .leaf .nil) .nil) .nil) (by kernel_rfl) (by rfl) ?_
            (repeat' (first | refine wk ?_ | refine wk2 ?_ ?_ | with_reducible refine wkF fun _ _ _ => ?_ | with_reducible intro _ | refine Doing.fresh (oc_build1 ap22 (fun _ h => by cases h; rfl) rfl rfl (by decide) (by decide)) fun _ _ _ => ?_ | refine Doing.fresh (oc_append1 (e := s1 y) ap22 us22 (each_s1 _) rfl rfl hb2.go (by assumption) (by simp; omega) (by simp; omega)) fun _ _ _ => ?_ | exact ag | fail))
            rename_i b' hb' hbn'
            have hbx : (b' = x) = False := (hbn' x (by rw [upd_self]; rfl)).2
            rw [own_store (fun _ q => by rw [q] at hbx; simp at hbx)]
            have hb3 : K b' = none := by rw [upd_eq, if_neg (by rw [hbx]; exact id)] at hb'; exact hb'
            exact ARun.weaken (nx.go b' fun _ => ⟨hb3, fun q => by rw [q] at hbx; simp at hbx⟩) (leK (Sub.refl _))
        · have e1 : decide ((i : Int) < R.mods.length) = false := by simp; omega
          obtain rfl : i = R.mods.length := by omega
          rw [List.take_length] at hb ⊢
          clear next
          generalize hM : (R.mods.filter fun s => !(s.toList == md.toList)) = M at *
          have f1 := ownH_keep (c := x) (r := .cells [ownT b 1 (M.map s1), .nils]) (K := upd K x (.cells [ownT b 1 (M.map s1), .nils])) (b := b) (L := M.map s1) (fun h => by rw [upd_eq, if_neg (hb h).2]; exact (hb h).1) (upd_self _ _ _)
          have f2 := ownH_keep (c := v) (r := .cells [.vs 1 (R.mods.map s1), .vs 5 (R.l.map Ent.enc)]) (K := upd K x (.cells [ownT b 1 (M.map s1), .nils])) (b := b) (L := M.map s1) (fun h => by rw [upd_eq, if_neg (hb h).2]; exact (hb h).1) (by rw [upd_eq, if_neg (by rw [hxv.1]; exact id)]; exact kv)
          have swp : ownH (upd K x (.cells [ownT b 1 (M.map s1), .nils])) b (M.map s1) = upd (ownH K b (M.map s1)) x (.cells [ownT b 1 (M.map s1), .nils]) := by
            by_cases h : M.map s1 = []
            · rw [h, ownH_nil, ownH_nil]
            · exact own_swap (by rw [upd_eq, if_neg (hb h).2]; exact (hb h).1)
          have f3 := ownH_keep (c := v) (K := K) (b := b) (L := M.map s1) (fun h => (hb h).1) kv
          have f4 := ownH_keep (c := w) (K := K) (b := b) (L := M.map s1) (fun h => (hb h).1) kw
          have hs0 : Sub H (ownH K b (M.map s1)) := sub_ownK hsub.go (fun h => (hb h).1)
          have hK0 : M.map s1 ≠ [] → ownH K b (M.map s1) b = some (.cells (M.map s1).flatten) := fun h => ownH_at h
          have hHb : M.map s1 ≠ [] → H b = none := fun h => hsub.go.gone (hb h).1
          have hKx : ownH K b (M.map s1) x = none := by
            by_cases h : M.map s1 = []
            · rw [h, ownH_nil]; exact hx
            · rw [ownH_ne (eq_false fun q => (hb h).2 q.symm)]; exact hx
          have eM : Each 1 (M.map s1) := each_s1 _
          have hbw : M.map s1 ≠ [] → b ≠ w := fun h q => by have := (hb h).1; rw [q, kw] at this; cases this
          replace hbw := later hbw
          replace swp := later swp
          replace hb := later hb
          replace hs0 := later hs0
          replace hK0 := later hK0
          replace hHb := later hHb
          replace eM := later eM
          clear kw hM
          (repeat' (first | refine wk ?_ | refine wk2 ?_ ?_ | with_reducible refine wkF fun _ _ _ => ?_ | with_reducible intro _ | exact ag | fail))
          rw [swp.go]
          clear swp f1 f2 hb kv hsub hx
          generalize ownH K b (M.map s1) = K2 at *
          have cv1 : ∀ A, (∀ p r, p ≠ w → K2 p = some r → A p = some r) → Sub H A → Conv A H (ownT b 1 (M.map s1)) (.vs 1 (M.map s1)) := fun A hA hs => by
            by_cases h : M.map s1 = []
            · rw [h]; exact conv_nils
            · exact conv_own hs (.inr (hA _ _ (hbw.go h) (hK0.go h))) (hHb.go h) eM.go
          replace cv1 := later cv1
          clear hK0 hHb eM hbw
          have oT : oneT (ownT b 1 (M.map s1)) = true := one_own _ _ _
          have cT : cellsT (ownT b 1 (M.map s1)) = some [ownT b 1 (M.map s1)] := cells_own _ _ _
          generalize ownT b 1 (M.map s1) = T1 at *
          refine ARun.rounds (fun st : Nat × Nat => ⟨[(1, .s (.string md)), (2, .s (.pointer (some ⟨v, 0, none⟩))), (4, .s (.pointer (some ⟨w, 0, none⟩))), (5, .s (.int .i64 0)), (6, .s (.pointer (some ⟨x, 0, none⟩))), (8, .s (.int .i64 (st.1 : Nat)))],
              ownH (upd K2 x (.cells [T1, ownT st.2 5 (((R.l.take st.1).filter fun e => !mdB md e).map Ent.enc)])) st.2 (((R.l.take st.1).filter fun e => !mdB md e).map Ent.enc)⟩) (fun st => R.l.length - st.1)
            (fun st => st.1 ≤ R.l.length ∧ ((((R.l.take st.1).filter fun e => !mdB md e).map Ent.enc) ≠ [] → K2 st.2 = none ∧ st.2 ≠ x)) ?_ (0, 0) ⟨by simp, fun h => absurd rfl h⟩ ?_
          · rintro ⟨i, c⟩ ⟨hi, hc⟩ next
            simp only [] at hi hc ⊢
            by_cases hlt : i < R.l.length
            · have e1 : (i : Int) < R.l.length := by omega
              have e2 : (0 : Int) ≤ i := by omega
              obtain ⟨y, hy⟩ := at_ hlt
              have hy1 := vget Ent.enc hy
              rw [Ent.enc_def] at hy1
              have hw6 := w64s (i := i) (by omega)
              have nx := fun b' hb' => next.go (i + 1, b') ⟨by simp only []; omega, hb'⟩ (by simp only []; omega)
              simp only [filter_snoc hy] at nx
              have hlen : ((R.l.take i).filter fun e => !mdB md e).length ≤ 10000 := Nat.le_trans (List.length_filter_le _ _) (by rw [List.length_take]; omega)
              have hmb : mdB md y = (y.md.toList == md.toList) := rfl
              generalize ((R.l.take i).filter fun e => !mdB md e) = L at *
              clear next hy
              have f1 := ownH_keep (c := x) (r := .cells [T1, ownT c 5 (L.map Ent.enc)]) (K := upd K2 x (.cells [T1, ownT c 5 (L.map Ent.enc)])) (b := c) (L := L.map Ent.enc) (fun h => by rw [upd_eq, if_neg (hc h).2]; exact (hc h).1) (upd_self _ _ _)
              have f2 := ownH_keep (c := v) (r := .cells [.vs 1 (R.mods.map s1), .vs 5 (R.l.map Ent.enc)]) (K := upd K2 x (.cells [T1, ownT c 5 (L.map Ent.enc)])) (b := c) (L := L.map Ent.enc) (fun h => by rw [upd_eq, if_neg (hc h).2]; exact (hc h).1) (by rw [upd_eq, if_neg (by rw [hxv.1]; exact id)]; exact f3)
              cases hq : (y.md.toList == md.toList) with
              | true =>
                rw [hq] at hmb
                simp only [hmb, Bool.not_true, Bool.false_eq_true, if_false] at nx
                have nx := nx c hc
                replace nx := later nx
                replace hc := later hc
                clear f3 f4 hmb
                (repeat' (first | refine wk ?_ | refine wk2 ?_ ?_ | with_reducible refine wkF fun _ _ _ => ?_ | with_reducible intro _ | exact ag | fail))
                exact ARun.weaken nx.go (leK (Sub.refl _))
              | false =>
                rw [hq] at hmb
                simp only [hmb, Bool.not_false, if_true, List.map_append, List.map_cons, List.map_nil] at nx
                replace nx := later nx
                have hb2 : L.map Ent.enc ≠ [] → upd K2 x (.cells [T1, ownT c 5 (L.map Ent.enc)]) c = none := fun h => by rw [upd_eq, if_neg (hc h).2]; exact (hc h).1
                replace hb2 := later hb2
                replace hc := later hc
                have ey : ([.s (.string y.nm), .s (.string y.md), .s (.int .i64 y.gt), .s (.int .i64 y.ix), .s (.int .i64 y.rf)] : List TV) = y.enc := rfl
                replace ey := later ey
                clear f4 hmb
                (repeat' (first | refine wk ?_ | refine wk2 ?_ ?_ | with_reducible refine wkF fun _ _ _ => ?_ | with_reducible intro _ | exact ag | fail))
                refine ARun.drawT mixed [0, 1, 2, 3, 4, 5, 6] (.alt 7 [0, 1, 2, 3, 4, 5] [] (.alt 8 [0, 2, 3, 4, 5, 6] [9] (.alt 10 [] [] .leaf .nil) .nil) .nil) (by kernel_rfl) (by rfl) ?_
                (repeat' (first | refine wk ?_ | refine wk2 ?_ ?_ | with_reducible refine wkF fun _ _ _ => ?_ | with_reducible intro _ | refine Doing.fresh (oc_build1 ap38 (fun _ h => by cases h; rfl) rfl rfl (by decide) (by decide)) fun _ _ _ => ?_ | exact ag | fail))
                rw [ey.go]
                clear ey
                (repeat' (first | refine wk ?_ | refine wk2 ?_ ?_ | with_reducible refine wkF fun _ _ _ => ?_ | with_reducible intro _ | refine Doing.fresh (oc_append1 (e := y.enc) ap38 us38 (each_ent _) rfl rfl hb2.go (by assumption) (by simp; omega) (by simp; omega)) fun _ _ _ => ?_ | exact ag | fail))
                rename_i b' hb' hbn'
                have hbx : (b' = x) = False := (hbn' x (by rw [upd_self]; rfl)).2
                rw [own_store (fun _ q => by rw [q] at hbx; simp at hbx)]
                have hb3 : K2 b' = none := by rw [upd_eq, if_neg (by rw [hbx]; exact id)] at hb'; exact hb'
                exact ARun.weaken (nx.go b' fun _ => ⟨hb3, fun q => by rw [q] at hbx; simp at hbx⟩) (leK (Sub.refl _))
            · have e1 : decide ((i : Int) < R.l.length) = false := by simp; omega
              obtain rfl : i = R.l.length := by omega
              rw [List.take_length] at hc ⊢
              clear next
              generalize (R.l.filter fun e => !mdB md e) = N at *
              have hcn : N.map Ent.enc ≠ [] → upd K2 x (.cells [T1, ownT c 5 (N.map Ent.enc)]) c = none := fun h => by rw [upd_eq, if_neg (hc h).2]; exact (hc h).1
              have f1 := ownH_keep (c := x) (r := .cells [T1, ownT c 5 (N.map Ent.enc)]) (K := upd K2 x (.cells [T1, ownT c 5 (N.map Ent.enc)])) (b := c) (L := N.map Ent.enc) hcn (upd_self _ _ _)
              have f2 := ownH_keep (c := v) (r := .cells [.vs 1 (R.mods.map s1), .vs 5 (R.l.map Ent.enc)]) (K := upd K2 x (.cells [T1, ownT c 5 (N.map Ent.enc)])) (b := c) (L := N.map Ent.enc) hcn (by rw [upd_eq, if_neg (by rw [hxv.1]; exact id)]; exact f3)
              have f5 := ownH_keep (c := w) (r := .cells [.nils, .nils]) (K := upd K2 x (.cells [T1, ownT c 5 (N.map Ent.enc)])) (b := c) (L := N.map Ent.enc) hcn (by rw [upd_eq, if_neg (by rw [hxw.1]; exact id)]; exact f4)
              have hk1 : Sub K2 (ownH (upd K2 x (.cells [T1, ownT c 5 (N.map Ent.enc)])) c (N.map Ent.enc)) := sub_ownK (Sub.upd (Sub.refl K2) hKx) hcn
              have cv2 : ∀ A, (∀ p r, p ≠ w → ownH (upd K2 x (.cells [T1, ownT c 5 (N.map Ent.enc)])) c (N.map Ent.enc) p = some r → A p = some r) → Sub H A → Conv A H (ownT c 5 (N.map Ent.enc)) (.vs 5 (N.map Ent.enc)) := fun A hA hs => by
                by_cases h : N.map Ent.enc = []
                · rw [h]; exact conv_nils
                · refine conv_own hs (.inr (hA c _ (fun q => ?_) (ownH_at h))) (hs0.go.gone (hc h).1) (each_ent _)
                  have := (hc h).1
                  rw [q, f4] at this; cases this
              have ecT : cellsT (ownT c 5 (N.map Ent.enc)) = some [ownT c 5 (N.map Ent.enc)] := cells_own _ _ _
              have eoT : oneT (ownT c 5 (N.map Ent.enc)) = true := one_own _ _ _
              replace cv2 := later cv2
              replace hk1 := later hk1
              clear f3 f4 hc hcn
              generalize ownH (upd K2 x (.cells [T1, ownT c 5 (N.map Ent.enc)])) c (N.map Ent.enc) = K3 at *
              generalize ownT c 5 (N.map Ent.enc) = T2 at *
              (repeat' (first | refine wk ?_ | refine wk2 ?_ ?_ | with_reducible refine wkF fun _ _ _ => ?_ | with_reducible intro _ | exact ag | fail))
              have hs : Sub H (upd K3 w (.cells [T1, T2])) := Sub.upd (hs0.go.trans hk1.go) hw0
              have hk : ∀ p r, p ≠ w → K3 p = some r → upd K3 w (.cells [T1, T2]) p = some r := fun p r hp hr => by rw [upd_eq, if_neg hp]; exact hr
              exact Fin.done (vs := [.agg [T1, T2], .s (.int .i64 0)]) ag hs (Conv.tup (.cons (Conv.agg (.cons (cv1.go _ (fun p r hp hr => hk p r hp (hk1.go p r hr)) hs) (.cons (cv2.go _ hk hs) .nil))) (.cons (Conv.refl hs _) .nil))) ⟨rfl, rfl⟩
          · have e0 : ((R.l.take 0).filter fun e => !mdB md e).map Ent.enc = [] := rfl
            simp only [e0, ownT_nil, ownH_nil]
            exact leK (Sub.refl _)
      · have e0 : ((R.mods.take 0).filter fun s => !(s.toList == md.toList)).map s1 = [] := rfl
        simp only [e0, ownT_nil, ownH_nil]
        exact leK (Sub.refl _)
end Go.Abs
/- What modules export: names held and let go, as the document counts (pure). -/
namespace Go.Abs
set_option linter.unusedSimpArgs false
set_option linter.unusedVariables false
open Go.Proofs Go.Nm Go.Wd
set_option linter.unusedVariables false
set_option linter.unusedSectionVars false
def bumpE (by_ : Int) (s : ByteArray) (e : Ent) : Ent := if e.nm = s then e.add by_ else e
theorem bumpE_nm (by_ : Int) (s : ByteArray) (e : Ent) : (bumpE by_ s e).nm = e.nm := by unfold bumpE; split <;> rfl
def bumpL (by_ : Int) (s : ByteArray) (l : List Ent) : List Ent := l.map (bumpE by_ s)
def refL (s : ByteArray) (l : List Ent) : Int := ((l.find? fun e => e.nm.toList == s.toList).getD Ent.zero).rf
def cntL (by_ : Int) : List ByteArray → List Ent → Int × List Ent
  | [], l => (0, l)
  | s :: ns, l => if decide (8 < refL s (bumpL by_ s l)) then (25, l) else if decide (refL s (bumpL by_ s l) < 0) then (2, l) else cntL by_ ns (bumpL by_ s l)
theorem cntL_cons (by_ : Int) (s : ByteArray) (ns : List ByteArray) (l : List Ent) : cntL by_ (s :: ns) l = if decide (8 < refL s (bumpL by_ s l)) then (25, l) else if decide (refL s (bumpL by_ s l) < 0) then (2, l) else cntL by_ ns (bumpL by_ s l) := rfl
theorem bumpL_names (by_ : Int) (s : ByteArray) (l : List Ent) : (bumpL by_ s l).map (·.nm) = l.map (·.nm) := by
  unfold bumpL
  rw [List.map_map]
  exact List.map_congr_left fun e _ => bumpE_nm by_ s e
theorem bumpL_set {by_ : Int} {s : ByteArray} {l : List Ent} (hn : (l.map (·.nm)).Nodup) {k : Nat} {x : Ent} (hx : l[k]? = some x) (hs : x.nm = s) : bumpL by_ s l = l.set k (x.add by_) := by
  apply List.ext_getElem?
  intro j
  unfold bumpL
  rw [List.getElem?_map, List.getElem?_set]
  by_cases h : k = j
  · subst h
    have hk := (List.getElem?_eq_some_iff.1 hx).1
    rw [if_pos rfl, if_pos hk, hx]
    simp [bumpE, hs]
  · rw [if_neg h]
    cases hy : l[j]? with
    | none => rfl
    | some y =>
      have : y.nm ≠ s := fun e => by
        obtain ⟨h1, g1⟩ := List.getElem?_eq_some_iff.1 hx
        obtain ⟨h2, g2⟩ := List.getElem?_eq_some_iff.1 hy
        refine h ?_
        rcases Nat.lt_trichotomy k j with q | q | q
        · exact absurd (show (l.map (·.nm))[k]'(by simpa using h1) = (l.map (·.nm))[j]'(by simpa using h2) by simp [g1, g2, hs, e]) (List.pairwise_iff_getElem.1 hn k j (by simpa using h1) (by simpa using h2) q)
        · exact q
        · exact absurd (show (l.map (·.nm))[j]'(by simpa using h2) = (l.map (·.nm))[k]'(by simpa using h1) by simp [g1, g2, hs, e]) (List.pairwise_iff_getElem.1 hn j k (by simpa using h2) (by simpa using h1) q)
      simp [bumpE, this]
theorem refL_bump {by_ : Int} {s : ByteArray} {l : List Ent} (hn : (l.map (·.nm)).Nodup) {x : Ent} (hx : x ∈ l) (hs : x.nm = s) : refL s (bumpL by_ s l) = x.rf + by_ := by
  have h : (bumpL by_ s l).find? (fun e => e.nm.toList == s.toList) = some (x.add by_) := (find_some (by rw [bumpL_names]; exact hn)).2 ⟨List.mem_map.2 ⟨x, hx, by simp [bumpE, hs]⟩, hs⟩
  unfold refL
  rw [h]; rfl
theorem bumpL_fit {by_ : Int} {s : ByteArray} {l : List Ent} (hf : LFit l) (hn : (l.map (·.nm)).Nodup) {x : Ent} (hx : x ∈ l) (hs : x.nm = s) (h1 : 0 ≤ x.rf + by_) (h2 : x.rf + by_ ≤ 8) : LFit (bumpL by_ s l) := by
  refine ⟨by unfold bumpL; rw [List.length_map]; exact hf.ll, fun e he => ?_⟩
  obtain ⟨y, hy, rfl⟩ := List.mem_map.1 he
  unfold bumpE
  split
  · rename_i q
    have : x = y := Option.some.inj (((find_some hn).2 ⟨hx, hs⟩).symm.trans ((find_some hn).2 ⟨hy, q⟩))
    subst this
    exact ⟨h1, h2⟩
  · exact hf.rf y hy
def RSym.cntE (R : RSym) (by_ : Int) (names : List ByteArray) : Int := if names.any (fun s => !R.thr s) then 8 else (cntL by_ names R.l).1
def RSym.cnt (R : RSym) (by_ : Int) (names : List ByteArray) : RSym := if R.cntE by_ names = 0 then ⟨R.mods, (cntL by_ names R.l).2⟩ else R
theorem RSym.cnt_no {R : RSym} {by_ : Int} {names : List ByteArray} (h : R.cntE by_ names ≠ 0) : R.cnt by_ names = R := if_neg h
/-- The names stay, whatever is counted. -/
theorem cntL_names (by_ : Int) : ∀ (ns : List ByteArray) (l : List Ent), ((cntL by_ ns l).2).map (·.nm) = l.map (·.nm)
  | [], l => rfl
  | s :: ns, l => by
    rw [cntL_cons]
    split
    · rfl
    · split
      · rfl
      · rw [cntL_names by_ ns, bumpL_names]
theorem cntL_fit {by_ : Int} : ∀ {ns : List ByteArray} {l : List Ent}, LFit l → (l.map (·.nm)).Nodup → (∀ s ∈ ns, ∃ x ∈ l, x.nm = s) → LFit (cntL by_ ns l).2
  | [], l, hf, hn, hs => hf
  | s :: ns, l, hf, hn, hs => by
    obtain ⟨x, hx, he⟩ := hs s (by simp)
    have hr := refL_bump (by_ := by_) hn hx he
    rw [cntL_cons, hr]
    split
    · exact hf
    · split
      · exact hf
      · rename_i q1 q2
        simp only [decide_eq_true_eq] at q1 q2
        refine cntL_fit (bumpL_fit hf hn hx he (by omega) (by omega)) (by rw [bumpL_names]; exact hn) fun t ht => ?_
        obtain ⟨y, hy, hq⟩ := hs t (List.mem_cons_of_mem _ ht)
        exact ⟨_, List.mem_map.2 ⟨y, hy, rfl⟩, by rw [bumpE_nm]; exact hq⟩
/-- What is counted goes into pairs as into rows. -/
theorem bumpP_map {by_ : Int} {s : ByteArray} {ents : Ents} (hk : ∀ p ∈ ents, p.1 = p.2.nm) : (bumpP by_ s ents).map (·.2) = bumpL by_ s (ents.map (·.2)) := by
  unfold bumpP bumpL
  rw [List.map_map, List.map_map]
  refine List.map_congr_left fun p hp => ?_
  simp only [Function.comp_def, bumpE, ← hk p hp]
  split <;> rfl
end Go.Abs
/- What modules export: Hold and Drop of the document's table. -/
namespace Go.Abs
set_option linter.unusedSimpArgs false
set_option linter.unusedVariables false
set_option maxHeartbeats 4000000
open Go.Proofs Go.Nm Go.Wd
set_option linter.unusedVariables false
set_option linter.unusedSectionVars false
set_option maxRecDepth 8000
variable {H : Heap}
/-- One cell of a row of entries. -/
theorem ent_cell {l : List Ent} {k : Nat} {x : Ent} (hx : l[k]? = some x) : ∃ A B, (l.map Ent.enc).flatten = A ++ .s (.int .i64 x.rf) :: B ∧ A.length = k * 5 + 4 ∧ ∀ v, A ++ .s (.int .i64 v) :: B = ((l.set k ⟨x.nm, x.md, x.gt, x.ix, v⟩).map Ent.enc).flatten := by
  induction l generalizing k with
  | nil => cases hx
  | cons y l ih =>
    cases k with
    | zero =>
      simp at hx; subst hx
      exact ⟨[.s (.string y.nm), .s (.string y.md), .s (.int .i64 y.gt), .s (.int .i64 y.ix)], (l.map Ent.enc).flatten, rfl, rfl, fun v => rfl⟩
    | succ k =>
      obtain ⟨A, B, h1, h2, h3⟩ := ih (by simpa using hx)
      refine ⟨y.enc ++ A, B, by rw [List.map_cons, List.flatten_cons, h1, List.append_assoc], by rw [List.length_append, h2]; show 5 + _ = _; omega, fun v => ?_⟩
      rw [List.set_cons_succ, List.map_cons, List.flatten_cons, List.append_assoc, h3]
theorem ent_drop4 {l : List Ent} {k : Nat} {x : Ent} (hx : l[k]? = some x) : ∃ B, ((l.map Ent.enc).flatten).drop (k * 5 + 4) = .s (.int .i64 x.rf) :: B := by
  obtain ⟨A, B, h1, h2, h3⟩ := ent_cell hx
  exact ⟨B, by rw [h1, ← h2, List.drop_left]⟩
theorem ent_set4 {l : List Ent} {k : Nat} {x : Ent} (hx : l[k]? = some x) (v : Int) : ((l.map Ent.enc).flatten).take (k * 5 + 4) ++ [.s (.int .i64 v)] ++ ((l.map Ent.enc).flatten).drop (k * 5 + 4 + 1) = ((l.set k ⟨x.nm, x.md, x.gt, x.ix, v⟩).map Ent.enc).flatten := by
  obtain ⟨A, B, h1, h2, h3⟩ := ent_cell hx
  rw [← h3 v, h1, ← h2, List.take_left, ← List.drop_drop, List.drop_left, List.append_assoc]; rfl
theorem ent_flat (l : List Ent) : ((l.map Ent.enc).flatten).length = l.length * 5 := by
  induction l with
  | nil => rfl
  | cons x l ih => rw [List.map_cons, List.flatten_cons, List.length_append, ih, List.length_cons]; show 5 + _ = _; omega
set_option maxHeartbeats 4000000 in
theorem rcount_c (R : RSym) (hR : R.fit) (hf : LFit R.l) (hn : (R.l.map (·.nm)).Nodup) (names : List ByteArray) (hl : names.length < 4611686018427387904) {by_ : Int} (hby : by_ = 1 ∨ by_ = -1) (H : Heap) :
    AC Tryd.prog 32 [R.tv, .vs 1 (names.map s1), .s (.int .i64 by_)] H (fun r H' => r = .tup [(R.cnt by_ names).tv, .s (.int .i64 (R.cntE by_ names))] ∧ H' = H) := by
  refine AC.body Tryd.func32 rfl rfl (n := 68) (res := [.cell 6 40, .tmp 7]) rfl rfl (by simp) ?_
  simp only [ent]
  have P := fun k H => place_c R hR.ok k H
  have hE : R.cntE by_ names = if names.any (fun s => !R.thr s) then 8 else (cntL by_ names R.l).1 := rfl
  have hC : ∀ s, fi (fun e : Ent => e.nm.toList == s.toList) R.l = R.plc s := fun s => rfl
  simp only [hC, RSym.tv_def] at P
  simp only [RSym.tv_def]
  replace hE := later hE
  replace hf := later hf
  replace hn := later hn
  have hll := hR.ll
  replace hR := later hR
  clear hC
  (repeat' (first | refine wk ?_ | refine wk2 ?_ ?_ | with_reducible refine wkF fun _ _ _ => ?_ | with_reducible intro _ | exact ag | fail))
  rename_i v hv hvn w hw hwn
  have kv : upd (upd H v (.cells [.vs 1 (R.mods.map s1), .vs 5 (R.l.map Ent.enc)])) w (.cells [.nils, .nils]) v = some (.cells [.vs 1 (R.mods.map s1), .vs 5 (R.l.map Ent.enc)]) := by rw [upd_eq, if_neg (by rw [(hwn v (by rw [upd_self]; rfl)).1]; exact id), upd_self]
  have kw : upd (upd H v (.cells [.vs 1 (R.mods.map s1), .vs 5 (R.l.map Ent.enc)])) w (.cells [.nils, .nils]) w = some (.cells [.nils, .nils]) := upd_self _ _ _
  have hvw : (v = w) = False ∧ (w = v) = False := hwn v (by rw [upd_self]; rfl)
  have hsub : Sub H (upd (upd H v (.cells [.vs 1 (R.mods.map s1), .vs 5 (R.l.map Ent.enc)])) w (.cells [.nils, .nils])) := sb
  have hv0 := hv
  have hw0 := nu1 hw
  generalize upd (upd H v (.cells [.vs 1 (R.mods.map s1), .vs 5 (R.l.map Ent.enc)])) w (.cells [.nils, .nils]) = K at *
  clear hv hvn hw hwn
  replace hsub := later hsub
  replace hv0 := later hv0
  replace hw0 := later hw0
  refine ARun.rounds (fun i : Nat => ⟨[(1, .vs 1 (names.map s1)), (2, .s (.int .i64 by_)), (3, .s (.pointer (some ⟨v, 0, none⟩))), (6, .s (.pointer (some ⟨w, 0, none⟩))), (8, .s (.int .i64 i))], K⟩) (fun i => names.length - i)
    (fun i => i ≤ names.length ∧ noneB (fun s => !R.thr s) names i) ?_ 0 ⟨by omega, noneB.zero⟩ ?_
  · rintro i ⟨hi, hno⟩ next
    replace hno := later hno
    by_cases hlt : i < names.length
    · have e1 : (i : Int) < names.length := by omega
      have e2 : (0 : Int) ≤ i := by omega
      obtain ⟨s, hs⟩ := at_ hlt
      have hs2 := vget s1 hs
      rw [s1_def s] at hs2
      have hw := w64s (i := i) (by omega)
      have P' := P s
      cases q : R.thr s with
      | true =>
        have q2 : decide (R.plc s < 0) = false := by unfold RSym.thr at q; simp at q ⊢; omega
        have nx := next.go (i + 1) ⟨by omega, hno.go.succ hs (by rw [q]; rfl)⟩ (by omega)
        clear next hs q P
        generalize R.plc s = k at *
        replace nx := later nx
        (repeat' (first | refine wk ?_ | refine wk2 ?_ ?_ | with_reducible refine wkF fun _ _ _ => ?_ | with_reducible intro _ | exact ag | fail))
        refine ARun.drawT mixed [0, 1, 2, 3, 4] (.alt 5 [1, 2, 3] [6] .leaf .nil) (by kernel_rfl) (by rfl) ?_
        (repeat' (first | refine wk ?_ | refine wk2 ?_ ?_ | with_reducible refine wkF fun _ _ _ => ?_ | with_reducible intro _ | refine Calling.eq (P' _) ?_ | exact ag | fail))
        exact ARun.weaken nx.go (leK (Sub.refl _))
      | false =>
        have q2 : decide (R.plc s < 0) = true := by unfold RSym.thr at q; simp at q ⊢; omega
        have h8 : R.cntE by_ names = 8 := by
          rw [hE.go, if_pos]
          exact List.any_eq_true.2 ⟨s, List.mem_of_getElem? hs, by rw [q]; rfl⟩
        rw [RSym.cnt_no (by rw [h8]; decide), h8]
        clear next hs q P h8
        generalize R.plc s = k at *
        (repeat' (first | refine wk ?_ | refine wk2 ?_ ?_ | with_reducible refine wkF fun _ _ _ => ?_ | with_reducible intro _ | exact ag | fail))
        refine ARun.drawT mixed [0, 1, 2, 3, 4] (.alt 5 [1, 2, 3] [6] .leaf .nil) (by kernel_rfl) (by rfl) ?_
        (repeat' (first | refine wk ?_ | refine wk2 ?_ ?_ | with_reducible refine wkF fun _ _ _ => ?_ | with_reducible intro _ | refine Calling.eq (P' _) ?_ | exact ag | fail))
        exact Fin.plain agr (Sub.upd hsub.go hw0.go) ⟨rfl, rfl⟩
    · have e1 : decide ((i : Int) < names.length) = false := by simp; omega
      clear next
      obtain rfl : i = names.length := by omega
      have hthr : ∀ s ∈ names, R.thr s = true := fun s hs => by
        obtain ⟨j, hj⟩ := List.mem_iff_getElem?.1 hs
        have := hno.go j s (List.getElem?_eq_some_iff.1 hj).1 hj
        simpa using this
      have hE2 : R.cntE by_ names = (cntL by_ names R.l).1 := by
        rw [hE.go, if_neg]
        intro h
        obtain ⟨s, hs, q⟩ := List.any_eq_true.1 h
        rw [hthr s hs] at q; cases q
      replace hthr := later hthr
      replace hE2 := later hE2
      clear hno
      (repeat' (first | refine wk ?_ | refine wk2 ?_ ?_ | with_reducible refine wkF fun _ _ _ => ?_ | with_reducible intro _ | refine Doing.fresh (oc_append_own0 ap38 us38 (each_ent _) (one_ent _) (by simp; omega) (by simp; omega)) fun _ _ _ => ?_ | exact ag | fail))
      rename_i b hb hbn
      have hbv : (b = v) = False := (hbn v (by rw [kv]; rfl)).2
      have hbw : (b = w) = False := (hbn w (by rw [kw]; rfl)).2
      replace hn := later hn.go
      have kv2 : ∀ L : List (List TV), ownH K b L v = some (.cells [.vs 1 (R.mods.map s1), .vs 5 (R.l.map Ent.enc)]) := fun L => ownH_keep (fun _ => hb) kv
      have kw2 : ∀ L : List (List TV), ownH K b L w = some (.cells [.nils, .nils]) := fun L => ownH_keep (fun _ => hb) kw
      clear hbn
      refine ARun.rounds (fun st : Nat × List Ent => ⟨[(1, .vs 1 (names.map s1)), (2, .s (.int .i64 by_)), (3, .s (.pointer (some ⟨v, 0, none⟩))), (6, .s (.pointer (some ⟨w, 0, none⟩))), (9, ownT b 5 (st.2.map Ent.enc)), (10, .s (.int .i64 (st.1 : Nat)))], ownH K b (st.2.map Ent.enc)⟩) (fun st => names.length - st.1)
        (fun st => st.1 ≤ names.length ∧ st.2.map (·.nm) = R.l.map (·.nm) ∧ cntL by_ names R.l = cntL by_ (names.drop st.1) st.2 ∧ LFit st.2) ?_ (0, R.l) ⟨by simp, rfl, rfl, hf.go⟩ ?_
      · rintro ⟨i, l⟩ ⟨hi, hnm, hcn, hfl⟩ next
        simp only [] at hi hnm hcn hfl ⊢
        have hnl : (l.map (·.nm)).Nodup := by rw [hnm]; exact hn.go
        have hlen : l.length = R.l.length := by have := congrArg List.length hnm; simpa using this
        replace hnm := later hnm
        replace hcn := later hcn
        replace hfl := later hfl
        by_cases hlt : i < names.length
        · have e1 : (i : Int) < names.length := by omega
          have e2 : (0 : Int) ≤ i := by omega
          obtain ⟨s, hs⟩ := at_ hlt
          have hs2 := vget s1 hs
          rw [s1_def s] at hs2
          have hw := w64s (i := i) (by omega)
          have hth := hthr.go s (List.mem_of_getElem? hs)
          obtain ⟨k, x0, hk, hx0, hx1⟩ : ∃ (k : Nat) (x0 : Ent), R.plc s = k ∧ R.l[k]? = some x0 ∧ x0.nm = s := by
            rcases fi_find (fun e : Ent => e.nm.toList == s.toList) R.l with ⟨h1, _⟩ | ⟨k, x0, h1, h2, h3⟩
            · have : R.plc s = -1 := h1
              unfold RSym.thr at hth; rw [this] at hth; cases hth
            · exact ⟨k, x0, h1, h2, ((find_some hn.go).1 h3).2⟩
          have P' := P s
          rw [hk] at P'
          have hkl : k < l.length := by rw [hlen]; exact (List.getElem?_eq_some_iff.1 hx0).1
          obtain ⟨x, hx⟩ := at_ hkl
          have hxs : x.nm = s := by
            have h := congrArg (fun z : List ByteArray => z[k]?) hnm.go
            simp only [List.getElem?_map, hx, hx0, Option.map_some, Option.some.injEq] at h
            rw [h]; exact hx1
          obtain ⟨r1, r2⟩ := hfl.go.rf x (List.mem_of_getElem? hx)
          have hrb := refL_bump (by_ := by_) hnl (List.mem_of_getElem? hx) hxs
          have hset : bumpL by_ s l = l.set k ⟨x.nm, x.md, x.gt, x.ix, x.rf + by_⟩ := bumpL_set hnl hx hxs
          have hstep : cntL by_ names R.l = if decide (8 < x.rf + by_) then (25, l) else if decide (x.rf + by_ < 0) then (2, l) else cntL by_ (names.drop (i + 1)) (bumpL by_ s l) := by
            obtain ⟨hi', hg⟩ := List.getElem?_eq_some_iff.1 hs
            rw [hcn.go, List.drop_eq_getElem_cons hi', hg, cntL_cons, hrb]
          have wr : IntKind.i64.wrap (x.rf + by_) = x.rf + by_ := wi64 (by omega) (by omega)
          obtain ⟨B, d4⟩ := ent_drop4 hx
          have s4 := ent_set4 hx (x.rf + by_)
          have hx' : (l.set k ⟨x.nm, x.md, x.gt, x.ix, x.rf + by_⟩)[k]? = some ⟨x.nm, x.md, x.gt, x.ix, x.rf + by_⟩ := by simp [hkl]
          obtain ⟨B', d5⟩ := ent_drop4 hx'
          simp only [] at d5
          have hne : l.map Ent.enc ≠ [] := by intro h; have : l = [] := by simpa using h
                                              rw [this] at hkl; exact absurd hkl (Nat.not_lt_zero _)
          have hne' : (l.set k ⟨x.nm, x.md, x.gt, x.ix, x.rf + by_⟩).map Ent.enc ≠ [] := by intro h; apply hne; have := congrArg List.length h; simp at this; simp [this]
          have hl5 := ent_flat l
          have hl6 : ((l.set k ⟨x.nm, x.md, x.gt, x.ix, x.rf + by_⟩).map Ent.enc).flatten.length = l.length * 5 := by rw [ent_flat, List.length_set]
          have k1 : (k : Int) < l.length := by omega
          have k2 : (0 : Int) ≤ k := by omega
          have nx := fun hq hf' => next.go (i + 1, bumpL by_ s l) ⟨by simp only []; omega, (bumpL_names by_ s l).trans hnm.go, hq, hf'⟩ (by simp only []; omega)
          simp only [hset] at nx
          simp only [ownT_ne hne', ownH_ne' hne', List.length_map, List.length_set] at nx
          rw [ownT_ne hne, ownH_ne' hne, List.length_map]
          have kv3 := kv2 (l.map Ent.enc)
          have kw3 := kw2 (l.map Ent.enc)
          have kv4 := kv2 ((l.set k ⟨x.nm, x.md, x.gt, x.ix, x.rf + by_⟩).map Ent.enc)
          have kw4 := kw2 ((l.set k ⟨x.nm, x.md, x.gt, x.ix, x.rf + by_⟩).map Ent.enc)
          rw [ownH_ne' hne] at kv3 kw3
          rw [ownH_ne' hne'] at kv4 kw4
          replace hlen := later hlen
          replace hstep := later hstep
          replace nx := later nx
          have hfb := fun h1 h2 => bumpL_fit (by_ := by_) hfl.go hnl (List.mem_of_getElem? hx) hxs h1 h2
          rw [hset] at hfb
          replace hfb := later hfb
          replace hset := later hset
          clear next hs hth hx hx' hx0 hx1 hk hxs hrb hnl hne hne' P r1 r2 kv2 kw2
          generalize l.set k ⟨x.nm, x.md, x.gt, x.ix, x.rf + by_⟩ = l2 at *
          have hb5 : k * 5 + 4 + 1 ≤ l.length * 5 := by omega
          have hsK : ∀ L : List TV, Sub H (upd (upd K b (.cells L)) w (.cells [.vs 1 (R.mods.map s1), .vs 5 (R.l.map Ent.enc)])) := fun L => Sub.upd (Sub.upd hsub.go (hsub.go.gone hb)) hw0.go
          cases q1 : decide (8 < x.rf + by_) with
          | true =>
            have h25 : R.cntE by_ names = 25 := by rw [hE2.go, hstep.go, if_pos q1]
            rw [RSym.cnt_no (by rw [h25]; decide), h25]
            clear nx h25
            replace hsK := later hsK
            (repeat' (first | refine wk ?_ | refine wk2 ?_ ?_ | with_reducible refine wkF fun _ _ _ => ?_ | with_reducible intro _ | exact ag | fail))
            refine ARun.drawT mixed [0, 1, 2, 3, 4] (.alt 5 [1, 2, 3] [6] .leaf .nil) (by kernel_rfl) (by rfl) ?_
            (repeat' (first | refine wk ?_ | refine wk2 ?_ ?_ | with_reducible refine wkF fun _ _ _ => ?_ | with_reducible intro _ | refine Calling.eq (P' _) ?_ | exact ag | fail))
            exact Fin.plain agr (hsK.go _) ⟨rfl, rfl⟩
          | false =>
            cases q2 : decide (x.rf + by_ < 0) with
            | true =>
              have h2 : R.cntE by_ names = 2 := by rw [hE2.go, hstep.go, if_neg (by rw [q1]; decide), if_pos q2]
              rw [RSym.cnt_no (by rw [h2]; decide), h2]
              clear nx h2
              replace hsK := later hsK
              (repeat' (first | refine wk ?_ | refine wk2 ?_ ?_ | with_reducible refine wkF fun _ _ _ => ?_ | with_reducible intro _ | exact ag | fail))
              refine ARun.drawT mixed [0, 1, 2, 3, 4] (.alt 5 [1, 2, 3] [6] .leaf .nil) (by kernel_rfl) (by rfl) ?_
              (repeat' (first | refine wk ?_ | refine wk2 ?_ ?_ | with_reducible refine wkF fun _ _ _ => ?_ | with_reducible intro _ | refine Calling.eq (P' _) ?_ | exact ag | fail))
              exact Fin.plain agr (hsK.go _) ⟨rfl, rfl⟩
            | false =>
              have hq : cntL by_ names R.l = cntL by_ (names.drop (i + 1)) l2 := by rw [hstep.go, if_neg (by rw [q1]; decide), if_neg (by rw [q2]; decide), hset.go]
              have hf2 := hfb.go (by simpa using q2) (by simpa using q1)
              have nx := nx.go hq hf2
              replace nx := later nx
              clear hq hf2
              replace hsK := later hsK
              (repeat' (first | refine wk ?_ | refine wk2 ?_ ?_ | with_reducible refine wkF fun _ _ _ => ?_ | with_reducible intro _ | exact ag | fail))
              refine ARun.drawT mixed [0, 1, 2, 3, 4] (.alt 5 [1, 2, 3] [6] .leaf .nil) (by kernel_rfl) (by rfl) ?_
              (repeat' (first | refine wk ?_ | refine wk2 ?_ ?_ | with_reducible refine wkF fun _ _ _ => ?_ | with_reducible intro _ | refine Calling.eq (P' _) ?_ | exact ag | fail))
              exact ARun.weaken nx.go (leK (Sub.refl _))
        · have e1 : decide ((i : Int) < names.length) = false := by simp; omega
          obtain rfl : i = names.length := by omega
          clear next
          have hz : cntL by_ names R.l = (0, l) := by rw [hcn.go, List.drop_length]; rfl
          have h0 : R.cntE by_ names = 0 := by rw [hE2.go, hz]
          have hR' : R.cnt by_ names = ⟨R.mods, l⟩ := by unfold RSym.cnt; rw [if_pos h0, hz]
          rw [h0, hR']
          have f1 := kv2 (l.map Ent.enc)
          have f2 := kw2 (l.map Ent.enc)
          have hk1 : Sub K (ownH K b (l.map Ent.enc)) := sub_ownK (Sub.refl K) fun _ => hb
          have cv2 : ∀ A, (∀ p r, p ≠ w → p ≠ v → ownH K b (l.map Ent.enc) p = some r → A p = some r) → Sub H A → Conv A H (ownT b 5 (l.map Ent.enc)) (.vs 5 (l.map Ent.enc)) := fun A hA hs => by
            by_cases h : l.map Ent.enc = []
            · rw [h]; exact conv_nils
            · exact conv_own hs (.inr (hA b _ (fun q => by rw [q] at hbw; simp at hbw) (fun q => by rw [q] at hbv; simp at hbv) (ownH_at h))) (hsub.go.gone hb) (each_ent _)
          have ecT : cellsT (ownT b 5 (l.map Ent.enc)) = some [ownT b 5 (l.map Ent.enc)] := cells_own _ _ _
          have eoT : oneT (ownT b 5 (l.map Ent.enc)) = true := one_own _ _ _
          replace cv2 := later cv2
          replace hk1 := later hk1
          clear hz h0 hR' P hn hnl hcn hnm hfl hthr hE2 hE hf kv2 kw2 hb
          generalize ownH K b (l.map Ent.enc) = K3 at *
          generalize ownT b 5 (l.map Ent.enc) = T2 at *
          (repeat' (first | refine wk ?_ | refine wk2 ?_ ?_ | with_reducible refine wkF fun _ _ _ => ?_ | with_reducible intro _ | exact ag | fail))
          have hs : Sub H (upd (upd K3 v (.cells [.vs 1 (R.mods.map s1), T2])) w (.cells [.vs 1 (R.mods.map s1), T2])) := Sub.upd (Sub.upd (hsub.go.trans hk1.go) hv0.go) hw0.go
          exact Fin.done (vs := [.agg [.vs 1 (R.mods.map s1), T2], .s (.int .i64 0)]) ag hs (Conv.tup (.cons (Conv.agg (.cons (Conv.refl hs _) (.cons (cv2.go _ (fun p r hp hq hr => (show upd (upd K3 v _) w _ p = some r by rw [upd_eq, if_neg hp, upd_eq, if_neg hq]; exact hr)) hs) .nil))) (.cons (Conv.refl hs _) .nil))) ⟨rfl, rfl⟩
      · exact leK (Sub.refl _)
  · exact leK (Sub.refl _)
end Go.Abs
/- What modules export: names in their order, entries sorted. -/
namespace Go.Proofs
open Go.Shelf Go.RowKit Go.Lib
def Tryd.sortEnt_ren : Go.Shelf.Ren := ⟨fun | 6 => 28 | 15 => 46 | 14 => 45 | 28 => 65 | 29 => 66 | 20 => 57 | 21 => 58 | 22 => 59 | 23 => 60 | 24 => 61 | 25 => 62 | 26 => 63 | 27 => 64 | 46 => 75 | 47 => 76 | 48 => 77 | 49 => 78 | 50 => 79 | 57 => 86 | n => n, fun | 22 => 28 | 24 => 33 | 25 => 62 | 3 => 3 | 39 => 82 | 0 => 0 | 53 => 30 | 55 => 98 | 4 => 4 | 46 => 90 | 45 => 89 | 50 => 94 | 5 => 5 | 9 => 9 | 66 => 103 | 70 => 107 | 76 => 115 | 77 => 116 | n => n, fun | n => n⟩
theorem Tryd.sortEnt : Go.Proofs.SlLaysF0.n6 Tryd.prog Tryd.sortEnt_ren := {
  mixed := by kernel_rfl
  f6 := ⟨Tryd.f28.name, by decide, Tryd.func28.trans (congrArg some (by kernel_rfl))⟩
  f14 := ⟨Tryd.f45.name, by decide, Tryd.func45.trans (congrArg some (by kernel_rfl))⟩
  f15 := Tryd.func46.trans (congrArg some (by kernel_rfl))
  f20 := ⟨Tryd.f57.name, by decide, Tryd.func57.trans (congrArg some (by kernel_rfl))⟩
  f21 := ⟨Tryd.f58.name, by decide, Tryd.func58.trans (congrArg some (by kernel_rfl))⟩
  f22 := ⟨Tryd.f59.name, by decide, Tryd.func59.trans (congrArg some (by kernel_rfl))⟩
  f23 := ⟨Tryd.f60.name, by decide, Tryd.func60.trans (congrArg some (by kernel_rfl))⟩
  f24 := ⟨Tryd.f61.name, by decide, Tryd.func61.trans (congrArg some (by kernel_rfl))⟩
  f25 := ⟨Tryd.f62.name, by decide, Tryd.func62.trans (congrArg some (by kernel_rfl))⟩
  f26 := ⟨Tryd.f63.name, by decide, Tryd.func63.trans (congrArg some (by kernel_rfl))⟩
  f27 := ⟨Tryd.f64.name, by decide, Tryd.func64.trans (congrArg some (by kernel_rfl))⟩
  f28 := Tryd.func65.trans (congrArg some (by kernel_rfl))
  f29 := Tryd.func66.trans (congrArg some (by kernel_rfl))
  f46 := ⟨Tryd.f75.name, by decide, Tryd.func75.trans (congrArg some (by kernel_rfl))⟩
  f47 := Tryd.func76.trans (congrArg some (by kernel_rfl))
  f48 := Tryd.func77.trans (congrArg some (by kernel_rfl))
  f49 := ⟨Tryd.f78.name, by decide, Tryd.func78.trans (congrArg some (by kernel_rfl))⟩
  f50 := ⟨Tryd.f79.name, by decide, Tryd.func79.trans (congrArg some (by kernel_rfl))⟩
  f57 := ⟨Tryd.f86.name, by decide, Tryd.func86.trans (congrArg some (by kernel_rfl))⟩
  t0 := Tryd.underlying0
  a0 := Tryd.isAgg0
  z0 := Tryd.sizeOf0
  v0 := Tryd.zeroValue0
  t3 := Tryd.underlying3
  a3 := Tryd.isAgg3
  z3 := Tryd.sizeOf3
  v3 := Tryd.zeroValue3
  t4 := Tryd.underlying4
  a4 := Tryd.isAgg4
  z4 := Tryd.sizeOf4
  v4 := Tryd.zeroValue4
  t5 := Tryd.underlying5
  a5 := Tryd.isAgg5
  z5 := Tryd.sizeOf5
  v5 := Tryd.zeroValue5
  t9 := Tryd.underlying9
  a9 := Tryd.isAgg9
  z9 := Tryd.sizeOf9
  v9 := Tryd.zeroValue9
  t22 := Tryd.underlying28
  a22 := Tryd.isAgg28
  z22 := Tryd.sizeOf28
  v22 := Tryd.zeroValue28
  t25 := Tryd.underlying62
  a25 := Tryd.isAgg62
  z25 := Tryd.sizeOf62
  v25 := Tryd.zeroValue62
  t39 := Tryd.underlying82
  a39 := Tryd.isAgg82
  z39 := Tryd.sizeOf82
  v39 := Tryd.zeroValue82
  t45 := Tryd.underlying89
  a45 := Tryd.isAgg89
  z45 := Tryd.sizeOf89
  v45 := Tryd.zeroValue89
  t46 := Tryd.underlying90
  a46 := Tryd.isAgg90
  z46 := Tryd.sizeOf90
  v46 := Tryd.zeroValue90
  t50 := Tryd.underlying94
  a50 := Tryd.isAgg94
  z50 := Tryd.sizeOf94
  v50 := Tryd.zeroValue94
  t53 := Tryd.underlying30
  a53 := Tryd.isAgg30
  z53 := Tryd.sizeOf30
  v53 := Tryd.zeroValue30
  t55 := Tryd.underlying98
  a55 := Tryd.isAgg98
  z55 := Tryd.sizeOf98
  v55 := Tryd.zeroValue98
  t66 := Tryd.underlying103
  a66 := Tryd.isAgg103
  z66 := Tryd.sizeOf103
  v66 := Tryd.zeroValue103
  t70 := Tryd.underlying107
  a70 := Tryd.isAgg107
  z70 := Tryd.sizeOf107
  v70 := Tryd.zeroValue107
  t76 := Tryd.underlying115
  a76 := Tryd.isAgg115
  z76 := Tryd.sizeOf115
  v76 := Tryd.zeroValue115
  t77 := Tryd.underlying116
  a77 := Tryd.isAgg116
  z77 := Tryd.sizeOf116
  v77 := Tryd.zeroValue116 }
end Go.Proofs
namespace Go.Abs
set_option linter.unusedSimpArgs false
set_option linter.unusedVariables false
set_option maxHeartbeats 4000000
open Go.Proofs Go.Nm Go.Wd
set_option linter.unusedVariables false
set_option linter.unusedSectionVars false
set_option maxRecDepth 8000
variable {H : Heap}
theorem isAggE (w : World) : (isAgg 33).run Tryd.prog w = .ok true w := by kernel_rfl
theorem sizeE (w : World) : (Go.sizeOf 33).run Tryd.prog w = .ok 5 w := by kernel_rfl
theorem less_c {G : Heap} (g : GH G) (hs : Sub G H) {a b : ByteArray} (ha : fits a) (hb : fits b) : AC Tryd.prog 30 [.s (.string a), .s (.string b)] H (fun r H' => r = .s (.bool (lessS a b)) ∧ H' = H) := by
  refine AC.body Tryd.func30 rfl rfl (n := 45) (res := [.tmp 4]) rfl rfl (by simp) ?_
  simp only [ent]
  have A := split_c (H := H) g hs ha
  have B := split_c (H := H) g hs hb
  rw [splitR_e] at A B
  unfold lessS
  clear ha hb g hs
  generalize (splitR a).1 = x at *
  generalize (splitR b).1 = y at *
  generalize (splitR a).2.1 = m at *
  generalize (splitR b).2.1 = n at *
  cases q1 : (chk a != 0) <;> cases q2 : (chk b != 0)
  · simp only [Bool.or_self, Bool.false_eq_true, if_false]
    cases q3 : Op.bytesLess x.toList y.toList <;> cases q4 : (x.toList == y.toList) <;> simp only [Bool.true_or, Bool.false_or, Bool.true_and, Bool.false_and, Bool.or_false]
    all_goals
      (repeat' (first | refine wk ?_ | refine wk2 ?_ ?_ | with_reducible refine wkF fun _ _ _ => ?_ | with_reducible intro _ | refine Calling.eq (A) ?_ | refine Calling.eq (B) ?_ | exact ag | fail))
      exact fin0
  all_goals
    simp only [Bool.or_true, Bool.true_or, if_true]
    (repeat' (first | refine wk ?_ | refine wk2 ?_ ?_ | with_reducible refine wkF fun _ _ _ => ?_ | with_reducible intro _ | refine Calling.eq (A) ?_ | refine Calling.eq (B) ?_ | exact ag | fail))
    exact fin0
def cmpE (x y : Ent) : Int := if lessS x.nm y.nm then -1 else if lessS y.nm x.nm then 1 else 0
theorem cmpE_c {G : Heap} (g : GH G) (hs : Sub G H) {x y : Ent} (hx : fits x.nm) (hy : fits y.nm) : AC Tryd.prog 29 [.agg x.enc, .agg y.enc] H (fun r H' => r = .s (.int .i64 (cmpE x y)) ∧ H' = H) := by
  refine AC.body Tryd.func29 rfl rfl (n := 17) (res := [.tmp 4]) rfl rfl (by simp) ?_
  simp only [ent]
  simp only [Ent.enc_def]
  unfold cmpE
  (repeat' (first | refine wk ?_ | refine wk2 ?_ ?_ | with_reducible refine wkF fun _ _ _ => ?_ | with_reducible intro _ | exact ag | fail))
  rename_i v hv _ w hw _
  have h1 := Sub.upd hs (r := .cells x.enc) (hs.none hv)
  have h2 := Sub.upd h1 (r := .cells y.enc) (h1.none hw)
  have A := less_c g h2 hx hy
  have B := less_c g h2 hy hx
  simp only [Ent.enc_def] at A B
  clear hx hy g hs h1 h2
  cases q1 : lessS x.nm y.nm with
  | true =>
    rw [q1] at A
    simp only [if_true]
    (repeat' (first | refine wk ?_ | refine wk2 ?_ ?_ | with_reducible refine wkF fun _ _ _ => ?_ | with_reducible intro _ | refine Calling.eq (A) ?_ | refine Calling.eq (B) ?_ | exact ag | fail))
    exact fin0
  | false =>
    rw [q1] at A
    simp only [Bool.false_eq_true, if_false]
    cases q2 : lessS y.nm x.nm with
    | true =>
      rw [q2] at B
      simp only [if_true]
      (repeat' (first | refine wk ?_ | refine wk2 ?_ ?_ | with_reducible refine wkF fun _ _ _ => ?_ | with_reducible intro _ | refine Calling.eq (A) ?_ | refine Calling.eq (B) ?_ | exact ag | fail))
      exact fin0
    | false =>
      rw [q2] at B
      simp only [Bool.false_eq_true, if_false]
      (repeat' (first | refine wk ?_ | refine wk2 ?_ ?_ | with_reducible refine wkF fun _ _ _ => ?_ | with_reducible intro _ | refine Calling.eq (A) ?_ | refine Calling.eq (B) ?_ | exact ag | fail))
      exact fin0
end Go.Abs
/- Names, pure: folding, parts and joins, the order. No program. -/
namespace Go.Nm
open Go.Lib Go.RowKit
set_option linter.unusedVariables false
theorem itoa_size (n : Int) (h0 : 0 ≤ n) (h1 : n ≤ 999) : (⟨(Lib.itoa n).toArray⟩ : ByteArray).size ≤ 17 := by
  have k : ∀ m : Fin 1000, (Lib.itoa ((m.val : Nat) : Int)).length ≤ 17 := by decide +kernel
  have := k ⟨n.toNat, by omega⟩
  simp only [Int.toNat_of_nonneg h0] at this
  exact this
theorem ext_get {a b : ByteArray} (hs : a.size = b.size) (h : ∀ i, i < a.size → (a.get! i).toNat = (b.get! i).toNat) : a = b := by
  apply ba_ext
  refine List.ext_getElem (by rw [← Lib.size_eq, ← Lib.size_eq, hs]) fun i h1 h2 => ?_
  have := h i (by rw [Lib.size_eq]; exact h1)
  rw [get!_list, get!_list, List.getD_eq_getElem?_getD, List.getD_eq_getElem?_getD, List.getElem?_eq_getElem h1, List.getElem?_eq_getElem h2] at this
  exact UInt8.toNat_inj.mp this
theorem get!_ex0 (s : ByteArray) (a b i : Nat) (hb : b ≤ s.size) (hi : i < b - a) : (s.extract a b).get! i = s.get! (a + i) := by
  rw [get!_list, get!_list, Lib.extract_data]
  simp only [List.getD_eq_getElem?_getD, List.getElem?_take, List.getElem?_drop, if_pos hi]
def lessR (a b : ByteArray) : Bool :=
  if chk a = 0 ∧ chk b = 0 then Op.bytesLess (cutA a).toList (cutA b).toList || (decide ((cutA a).toList = (cutA b).toList) && decide (ver (cutB a) < ver (cutB b))) else Op.bytesLess a.toList b.toList
def withV (s : ByteArray) (n : Int) : ByteArray := s ++ ((⟨#[64]⟩ : ByteArray) ++ ⟨(Lib.itoa n).toArray⟩)
theorem withV_size (s : ByteArray) (n : Int) (h0 : 0 ≤ n) (h1 : n ≤ 999) : (withV s n).size ≤ s.size + 18 := by
  unfold withV
  have := itoa_size n h0 h1
  rw [ByteArray.size_append, ByteArray.size_append]
  have e : (⟨#[64]⟩ : ByteArray).size = 1 := rfl
  omega
/-- What Join tells. -/
def joinR (s : ByteArray) (n : Int) : ByteArray × Int :=
  if n < 0 ∨ n > 999 then ((⟨#[]⟩ : ByteArray), 2) else if has s = true then ((⟨#[]⟩ : ByteArray), 6) else
    if chk (if n > 0 then withV s n else s) = 0 then ((if n > 0 then withV s n else s), 0) else ((⟨#[]⟩ : ByteArray), chk (if n > 0 then withV s n else s))
theorem ver_step (s : ByteArray) (f p : Nat) (n : Int) (h : p < s.size) : verFrom s (f + 1) p n = if 48 ≤ (s.get! p).toNat ∧ (s.get! p).toNat ≤ 57 then verFrom s f (p + 1) (wrap64 (wrap64 (10 * n) + (((s.get! p).toNat : Int) - 48))) else 0 := by
  rw [verFrom, if_pos h]
  by_cases ha : (s.get! p).toNat < 128
  · rw [dec_ascii s p ha]
    by_cases hd : 48 ≤ (s.get! p).toNat ∧ (s.get! p).toNat ≤ 57
    · rw [if_pos hd, if_neg (by omega)]
    · rw [if_neg hd, if_pos (by omega)]
  · have := dec_high s p ha
    rw [if_pos (by omega), if_neg (by omega)]
/-- The text of so many bytes. -/
def tx (l : List Nat) : ByteArray := ⟨(l.map UInt8.ofNat).toArray⟩
theorem get_tx (s : ByteArray) : s = tx (s.data.toList.map UInt8.toNat) := by
  apply ba_ext
  unfold tx
  simp [Function.comp_def]
theorem itoa1 : ∀ a : Fin 10, a.val ≠ 0 → ((Lib.itoa ((a.val : Nat) : Int)) = [UInt8.ofNat (48 + a.val)]) := by decide +kernel
theorem itoa2 : ∀ a b : Fin 10, a.val ≠ 0 → ((Lib.itoa ((10 * a.val + b.val : Nat) : Int)) = [UInt8.ofNat (48 + a.val), UInt8.ofNat (48 + b.val)]) := by decide +kernel
theorem itoa3 : ∀ a b c : Fin 10, a.val ≠ 0 → ((Lib.itoa ((100 * a.val + 10 * b.val + c.val : Nat) : Int)) = [UInt8.ofNat (48 + a.val), UInt8.ofNat (48 + b.val), UInt8.ofNat (48 + c.val)]) := by decide +kernel
theorem list_of_get (s : ByteArray) (n : Nat) (h : s.size = n) : s.data.toList = (List.range n).map fun i => s.get! i := by
  refine List.ext_getElem (by rw [← Lib.size_eq, h]; simp) fun i h1 h2 => ?_
  rw [List.getElem_map, List.getElem_range, get!_list, List.getD_eq_getElem?_getD, List.getElem?_eq_getElem h1]
  rfl
theorem u8_of (x : UInt8) (d : Nat) (h : x.toNat = 48 + d) : x = UInt8.ofNat (48 + d) := by rw [← h, UInt8.ofNat_toNat]
/-- A version that is none of 0 is the text of its digits, from 1 to 999. -/
theorem ver_back (s : ByteArray) (h : ver s ≠ 0) : 0 < ver s ∧ ver s ≤ 999 ∧ s = ⟨(Lib.itoa (ver s)).toArray⟩ := by
  have hz : ¬ (s.size = 0 ∨ 3 < s.size ∨ (s.get! 0).toNat = 48) := fun hc => h (by unfold ver; rw [if_pos hc])
  have hv : ver s = verFrom s s.size 0 0 := by unfold ver; rw [if_neg hz]
  obtain ⟨x0, hx0⟩ : ∃ x, (s.get! 0).toNat = x := ⟨_, rfl⟩
  obtain ⟨x1, hx1⟩ : ∃ x, (s.get! 1).toNat = x := ⟨_, rfl⟩
  obtain ⟨x2, hx2⟩ : ∃ x, (s.get! 2).toNat = x := ⟨_, rfl⟩
  have key : ∀ v : Int, ver s = v → (0 < v ∧ v ≤ 999 ∧ s.data.toList = Lib.itoa v) → 0 < ver s ∧ ver s ≤ 999 ∧ s = ⟨(Lib.itoa (ver s)).toArray⟩ := fun v e ⟨h1, h2, h3⟩ => by
    rw [e]
    exact ⟨h1, h2, ba_ext (by simpa using h3)⟩
  have hs : s.size = 1 ∨ s.size = 2 ∨ s.size = 3 := by omega
  rcases hs with hs | hs | hs
  · rw [hs, ver_step s 0 0 0 (by omega), verFrom_end _ _ _ _ (by omega), hx0] at hv
    by_cases hd : 48 ≤ x0 ∧ x0 ≤ 57
    · rw [if_pos hd, show wrap64 ((10 : Int) * 0) = 0 by unfold wrap64; decide, w64 (by omega) (by omega)] at hv
      refine key (x0 - 48) (by omega) ⟨by omega, by omega, ?_⟩
      have := itoa1 ⟨x0 - 48, by omega⟩ (by simp only; omega)
      simp only at this
      rw [show ((x0 : Int) - 48) = ((x0 - 48 : Nat) : Int) by omega, this, list_of_get s 1 hs]
      simp only [List.range_succ, List.range_zero, List.nil_append, List.map_cons, List.map_nil]
      rw [u8_of (s.get! 0) (x0 - 48) (by omega)]
    · rw [if_neg hd] at hv; exact absurd hv h
  · rw [hs, ver_step s 1 0 0 (by omega), ver_step s 0 1 _ (by omega), verFrom_end _ _ _ _ (by omega), hx0, hx1] at hv
    by_cases hd : 48 ≤ x0 ∧ x0 ≤ 57
    · by_cases hd1 : 48 ≤ x1 ∧ x1 ≤ 57
      · rw [if_pos hd, if_pos hd1, show wrap64 ((10 : Int) * 0) = 0 by unfold wrap64; decide, w64 (x := 0 + ((x0 : Int) - 48)) (by omega) (by omega), w64 (x := 10 * (0 + ((x0 : Int) - 48))) (by omega) (by omega), w64 (by omega) (by omega)] at hv
        refine key (10 * (x0 - 48) + (x1 - 48)) (by omega) ⟨by omega, by omega, ?_⟩
        have := itoa2 ⟨x0 - 48, by omega⟩ ⟨x1 - 48, by omega⟩ (by simp only; omega)
        simp only at this
        rw [show (10 * ((x0 : Int) - 48) + (x1 - 48)) = ((10 * (x0 - 48) + (x1 - 48) : Nat) : Int) by omega, this, list_of_get s 2 hs]
        simp only [List.range_succ, List.range_zero, List.nil_append, List.map_cons, List.map_nil, List.cons_append]
        rw [u8_of (s.get! 0) (x0 - 48) (by omega), u8_of (s.get! 1) (x1 - 48) (by omega)]
      · rw [if_pos hd, if_neg hd1] at hv; exact absurd hv h
    · rw [if_neg hd] at hv; exact absurd hv h
  · rw [hs, ver_step s 2 0 0 (by omega), ver_step s 1 1 _ (by omega), ver_step s 0 2 _ (by omega), verFrom_end _ _ _ _ (by omega), hx0, hx1, hx2] at hv
    by_cases hd : 48 ≤ x0 ∧ x0 ≤ 57
    · by_cases hd1 : 48 ≤ x1 ∧ x1 ≤ 57
      · by_cases hd2 : 48 ≤ x2 ∧ x2 ≤ 57
        · rw [if_pos hd, if_pos hd1, if_pos hd2, show wrap64 ((10 : Int) * 0) = 0 by unfold wrap64; decide, w64 (x := 0 + ((x0 : Int) - 48)) (by omega) (by omega), w64 (x := 10 * (0 + ((x0 : Int) - 48))) (by omega) (by omega), w64 (x := 10 * (0 + ((x0 : Int) - 48)) + ((x1 : Int) - 48)) (by omega) (by omega), w64 (x := 10 * (10 * (0 + ((x0 : Int) - 48)) + ((x1 : Int) - 48))) (by omega) (by omega), w64 (by omega) (by omega)] at hv
          refine key (100 * (x0 - 48) + 10 * (x1 - 48) + (x2 - 48)) (by omega) ⟨by omega, by omega, ?_⟩
          have := itoa3 ⟨x0 - 48, by omega⟩ ⟨x1 - 48, by omega⟩ ⟨x2 - 48, by omega⟩ (by simp only; omega)
          simp only at this
          rw [show (100 * ((x0 : Int) - 48) + 10 * (x1 - 48) + (x2 - 48)) = ((100 * (x0 - 48) + 10 * (x1 - 48) + (x2 - 48) : Nat) : Int) by omega, this, list_of_get s 3 hs]
          simp only [List.range_succ, List.range_zero, List.nil_append, List.map_cons, List.map_nil, List.cons_append]
          rw [u8_of (s.get! 0) (x0 - 48) (by omega), u8_of (s.get! 1) (x1 - 48) (by omega), u8_of (s.get! 2) (x2 - 48) (by omega)]
        · rw [if_pos hd, if_pos hd1, if_neg hd2] at hv; exact absurd hv h
      · rw [if_pos hd, if_neg hd1] at hv; exact absurd hv h
    · rw [if_neg hd] at hv; exact absurd hv h
/-- The digits of a number from 1 to 999, and how they are read. -/
theorem ver_itoa (n : Int) (h0 : 0 < n) (h1 : n ≤ 999) : ver ⟨(Lib.itoa n).toArray⟩ = n ∧ ∀ i, ((⟨(Lib.itoa n).toArray⟩ : ByteArray).get! i).toNat ≠ 64 := by
  have fin : ∀ s : ByteArray, ∀ l : List Nat, s.data.toList = l.map (fun d => UInt8.ofNat (48 + d)) → (∀ d ∈ l, d < 10) → ∀ i, i < s.size → ∃ d, l[i]? = some d ∧ (s.get! i).toNat = 48 + d := fun s l hl hd i hi => by
    have hi2 : i < l.length := by have := Lib.size_eq s; rw [hl, List.length_map] at this; omega
    refine ⟨l[i], List.getElem?_eq_getElem hi2, ?_⟩
    rw [get!_list, hl, List.getD_eq_getElem?_getD, List.getElem?_map, List.getElem?_eq_getElem hi2]
    have := hd l[i] (List.getElem_mem hi2)
    simp only [Option.map_some, Option.getD_some]
    exact UInt8.toNat_ofNat_of_lt' (by have : UInt8.size = 256 := rfl; omega)
  have all : ∀ s : ByteArray, ∀ l : List Nat, s.data.toList = l.map (fun d => UInt8.ofNat (48 + d)) → (∀ d ∈ l, d < 10) → ∀ i, (s.get! i).toNat ≠ 64 := fun s l hl hd i => by
    by_cases hi : i < s.size
    · obtain ⟨d, e1, e2⟩ := fin s l hl hd i hi
      have := hd d (List.mem_of_getElem? e1)
      omega
    · rw [get!_out s i (by omega)]; decide
  obtain ⟨s, hs⟩ : ∃ s : ByteArray, s = ⟨(Lib.itoa n).toArray⟩ := ⟨_, rfl⟩
  have hl : s.data.toList = Lib.itoa n := by rw [hs]
  rw [← hs]
  clear hs
  have hcase : n < 10 ∨ (10 ≤ n ∧ n < 100) ∨ 100 ≤ n := by omega
  rcases hcase with hc | hc | hc
  · have e := itoa1 ⟨n.toNat, by omega⟩ (by simp only; omega)
    simp only [Int.toNat_of_nonneg (show 0 ≤ n by omega)] at e
    rw [e] at hl
    have hd : ∀ d ∈ [n.toNat], d < 10 := by simp; omega
    have hz : s.size = 1 := by rw [Lib.size_eq, hl]; rfl
    have f0 := fin s [n.toNat] hl hd 0 (by omega)
    obtain ⟨d0, a0, b0⟩ := f0
    simp at a0
    refine ⟨?_, all s [n.toNat] hl hd⟩
    unfold ver
    rw [if_neg (by omega), hz, ver_step s 0 0 0 (by omega), verFrom_end _ _ _ _ (by omega), b0, if_pos (by omega), show wrap64 ((10 : Int) * 0) = 0 by unfold wrap64; decide, w64 (by omega) (by omega)]
    omega
  · have e := itoa2 ⟨(n / 10).toNat, by omega⟩ ⟨(n % 10).toNat, by omega⟩ (by simp only; omega)
    simp only at e
    rw [show ((10 * (n / 10).toNat + (n % 10).toNat : Nat) : Int) = n by omega] at e
    rw [e] at hl
    have hd : ∀ d ∈ [(n / 10).toNat, (n % 10).toNat], d < 10 := by simp; omega
    have hz : s.size = 2 := by rw [Lib.size_eq, hl]; rfl
    obtain ⟨d0, a0, b0⟩ := fin s [(n / 10).toNat, (n % 10).toNat] hl hd 0 (by omega)
    obtain ⟨d1, a1, b1⟩ := fin s [(n / 10).toNat, (n % 10).toNat] hl hd 1 (by omega)
    simp at a0 a1
    refine ⟨?_, all s [(n / 10).toNat, (n % 10).toNat] hl hd⟩
    unfold ver
    rw [if_neg (by omega), hz, ver_step s 1 0 0 (by omega), ver_step s 0 1 _ (by omega), verFrom_end _ _ _ _ (by omega), b0, b1, if_pos (by omega), if_pos (by omega), show wrap64 ((10 : Int) * 0) = 0 by unfold wrap64; decide, w64 (x := 0 + (((48 + d0 : Nat) : Int) - 48)) (by omega) (by omega), w64 (x := 10 * (0 + (((48 + d0 : Nat) : Int) - 48))) (by omega) (by omega), w64 (by omega) (by omega)]
    omega
  · have e := itoa3 ⟨(n / 100).toNat, by omega⟩ ⟨(n / 10 % 10).toNat, by omega⟩ ⟨(n % 10).toNat, by omega⟩ (by simp only; omega)
    simp only at e
    rw [show ((100 * (n / 100).toNat + 10 * (n / 10 % 10).toNat + (n % 10).toNat : Nat) : Int) = n by omega] at e
    rw [e] at hl
    have hd : ∀ d ∈ [(n / 100).toNat, (n / 10 % 10).toNat, (n % 10).toNat], d < 10 := by simp; omega
    have hz : s.size = 3 := by rw [Lib.size_eq, hl]; rfl
    obtain ⟨d0, a0, b0⟩ := fin s [(n / 100).toNat, (n / 10 % 10).toNat, (n % 10).toNat] hl hd 0 (by omega)
    obtain ⟨d1, a1, b1⟩ := fin s [(n / 100).toNat, (n / 10 % 10).toNat, (n % 10).toNat] hl hd 1 (by omega)
    obtain ⟨d2, a2, b2⟩ := fin s [(n / 100).toNat, (n / 10 % 10).toNat, (n % 10).toNat] hl hd 2 (by omega)
    simp at a0 a1 a2
    refine ⟨?_, all s [(n / 100).toNat, (n / 10 % 10).toNat, (n % 10).toNat] hl hd⟩
    unfold ver
    rw [if_neg (by omega), hz, ver_step s 2 0 0 (by omega), ver_step s 1 1 _ (by omega), ver_step s 0 2 _ (by omega), verFrom_end _ _ _ _ (by omega), b0, b1, b2, if_pos (by omega), if_pos (by omega), if_pos (by omega), show wrap64 ((10 : Int) * 0) = 0 by unfold wrap64; decide,
      w64 (x := 0 + (((48 + d0 : Nat) : Int) - 48)) (by omega) (by omega), w64 (x := 10 * (0 + (((48 + d0 : Nat) : Int) - 48))) (by omega) (by omega), w64 (x := 10 * (0 + (((48 + d0 : Nat) : Int) - 48)) + (((48 + d1 : Nat) : Int) - 48)) (by omega) (by omega), w64 (x := 10 * (10 * (0 + (((48 + d0 : Nat) : Int) - 48)) + (((48 + d1 : Nat) : Int) - 48))) (by omega) (by omega), w64 (by omega) (by omega)]
    omega
theorem ver_range (s : ByteArray) : 0 ≤ ver s ∧ ver s ≤ 999 := by
  by_cases h : ver s = 0
  · omega
  · obtain ⟨h1, h2, _⟩ := ver_back s h; omega

/-! ### parts -/
theorem has_cutA (s : ByteArray) : has (cutA s) = false := by
  rcases at_spec s with ⟨h1, h2, h3, h4⟩ | ⟨j, hj, h1, h2, h3, h4, h5⟩
  · rw [h2, h1]
  · rcases at_spec (cutA s) with ⟨g1, _⟩ | ⟨i, hi, g1, g2, g3, g4, g5⟩
    · exact g1
    · rw [h2] at g4 hi
      rw [ex_size _ _ _ (by omega)] at hi
      rw [get!_ex0 s 0 j i (by omega) hi, Nat.zero_add] at g4
      exact absurd g4 (h5 i (by omega))
theorem no_has (s : ByteArray) (h : has s = false) : cutA s = s ∧ ver (cutB s) = 0 := by
  rcases at_spec s with ⟨h1, h2, h3, h4⟩ | ⟨j, hj, h1, h2, h3, h4, h5⟩
  · exact ⟨h2, by rw [h3]; rfl⟩
  · rw [h1] at h; cases h
theorem get!_app (a b : ByteArray) (i : Nat) : (a ++ b).get! i = if i < a.size then a.get! i else b.get! (i - a.size) := by
  rw [get!_list, get!_list, get!_list]
  have : (a ++ b).data.toList = a.data.toList ++ b.data.toList := by simp [ByteArray.data_append]
  rw [this, List.getD_eq_getElem?_getD, List.getD_eq_getElem?_getD, List.getD_eq_getElem?_getD, List.getElem?_append, Lib.size_eq a]
  split <;> rfl
/-- A text with an '@' is its parts, an '@' between. -/
theorem parts_back (s : ByteArray) (h : has s = true) : s = cutA s ++ ((⟨#[64]⟩ : ByteArray) ++ cutB s) := by
  rcases at_spec s with ⟨h1, h2, h3, h4⟩ | ⟨j, hj, h1, h2, h3, h4, h5⟩
  · rw [h1] at h; cases h
  · have e1 : (⟨#[64]⟩ : ByteArray).size = 1 := rfl
    rw [h2, h3]
    refine ext_get ?_ fun i hi => ?_
    · rw [ByteArray.size_append, ByteArray.size_append, ex_size _ _ _ (by omega), ex_size _ _ _ (by omega)]; omega
    · rw [get!_app, get!_app, ex_size _ _ _ (by omega), e1]
      by_cases c1 : i < j
      · rw [if_pos (by omega), get!_ex0 s 0 j i (by omega) (by omega), Nat.zero_add]
      · rw [if_neg (by omega)]
        by_cases c2 : i = j
        · rw [if_pos (by omega), show i - (j - 0) = 0 by omega, c2, h4]; rfl
        · rw [if_neg (by omega), get!_ex0 s (j + 1) s.size _ (by omega) (by omega), show j + 1 + (i - (j - 0) - 1) = i by omega]
/-- A stem without '@' and what follows are the parts of what they make. -/
theorem parts_withV (s : ByteArray) (n : Int) (h : has s = false) (h0 : 0 < n) (h1 : n ≤ 999) : has (withV s n) = true ∧ cutA (withV s n) = s ∧ ver (cutB (withV s n)) = n := by
  have hno : ∀ j, j < s.size → (s.get! j).toNat ≠ 64 := by
    rcases at_spec s with ⟨_, _, _, h4⟩ | ⟨j, hj, g1, _⟩
    · exact h4
    · rw [g1] at h; cases h
  obtain ⟨hv, hn64⟩ := ver_itoa n h0 h1
  have e1 : (⟨#[64]⟩ : ByteArray).size = 1 := rfl
  have hz : (withV s n).size = s.size + (1 + (⟨(Lib.itoa n).toArray⟩ : ByteArray).size) := by unfold withV; rw [ByteArray.size_append, ByteArray.size_append, e1]
  have hg : ∀ i, (withV s n).get! i = if i < s.size then s.get! i else if i - s.size < 1 then (⟨#[64]⟩ : ByteArray).get! (i - s.size) else (⟨(Lib.itoa n).toArray⟩ : ByteArray).get! (i - s.size - 1) := fun i => by
    unfold withV; rw [get!_app, get!_app, e1]
  have hat : ((withV s n).get! s.size).toNat = 64 := by rw [hg, if_neg (by omega), if_pos (by omega), Nat.sub_self]; rfl
  rcases at_spec (withV s n) with ⟨g1, g2, g3, g4⟩ | ⟨j, hj, g1, g2, g3, g4, g5⟩
  · exact absurd hat (g4 s.size (by omega))
  · have e : j = s.size := by
      rcases Nat.lt_trichotomy j s.size with c | c | c
      · rw [hg, if_pos c] at g4; exact absurd g4 (hno j c)
      · exact c
      · exact absurd hat (g5 s.size c)
    subst e
    refine ⟨g1, ?_, ?_⟩
    · rw [g2]
      refine ext_get (by rw [ex_size _ _ _ (by omega)]; omega) fun i hi => ?_
      rw [ex_size _ _ _ (by omega)] at hi
      rw [get!_ex0 _ _ _ _ (by omega) hi, Nat.zero_add, hg, if_pos (by omega)]
    · have : cutB (withV s n) = ⟨(Lib.itoa n).toArray⟩ := by
        rw [g3]
        refine ext_get (by rw [ex_size _ _ _ (by omega)]; omega) fun i hi => ?_
        rw [ex_size _ _ _ (by omega)] at hi
        rw [get!_ex0 _ _ _ _ (by omega) hi, hg, if_neg (by omega), if_neg (by omega), show s.size + 1 + i - s.size - 1 = i by omega]
      rw [this, hv]
/-- What a name's parts make is the name. -/
theorem join_split (s : ByteArray) (h : chk s = 0) : joinR (cutA s) (ver (cutB s)) = (s, 0) := by
  have hr := ver_range (cutB s)
  have hA := has_cutA s
  have hok : okN s = true := by
    unfold chk at h
    cases ho : okN s
    · rw [ho] at h; simp at h
    · rfl
  have key : (if ver (cutB s) > 0 then withV (cutA s) (ver (cutB s)) else cutA s) = s := by
    cases hh : has s
    · obtain ⟨e1, e2⟩ := no_has s hh
      rw [e2, if_neg (by omega), e1]
    · have hne : ver (cutB s) ≠ 0 := fun hc => by
        unfold okN at hok
        rw [hh, hc] at hok
        simp at hok
      obtain ⟨c1, c2, c3⟩ := ver_back _ hne
      rw [if_pos c1]
      unfold withV
      rw [← c3]
      exact (parts_back s hh).symm
  unfold joinR
  rw [if_neg (by omega), hA, key]
  simp [h]
/-- What Join makes is split into what it was made of. -/
theorem split_join (s : ByteArray) (n : Int) (h0 : 0 ≤ n) (h1 : n ≤ 999) : (joinR s n).2 ≠ 0 ∧ (joinR s n).1 = ⟨#[]⟩ ∨ (joinR s n).2 = 0 ∧ splitR (joinR s n).1 = (s, n, 0) ∧ has s = false ∧ (joinR s n).1 = (if n > 0 then withV s n else s) ∧ chk (if n > 0 then withV s n else s) = 0 := by
  unfold joinR
  rw [if_neg (by omega)]
  cases hh : has s
  · simp only [Bool.false_eq_true, if_false]
    by_cases hc : chk (if n > 0 then withV s n else s) = 0
    · refine .inr ?_
      rw [if_pos hc]
      refine ⟨rfl, ?_, trivial, rfl, hc⟩
      dsimp only
      unfold splitR
      rw [if_pos hc]
      by_cases hp : n > 0
      · obtain ⟨e1, e2, e3⟩ := parts_withV s n hh (by omega) h1
        rw [if_pos hp, e2, e3]
      · obtain ⟨e1, e2⟩ := no_has s hh
        rw [if_neg hp, e1, e2, show n = 0 by omega]
    · rw [if_neg hc]
      exact .inl ⟨hc, rfl⟩
  · simp
theorem joinR_size (s : ByteArray) (n : Int) (h0 : 0 ≤ n) (h1 : n ≤ 999) : (joinR s n).1.size ≤ s.size + 18 := by
  rcases split_join s n h0 h1 with ⟨_, e⟩ | ⟨_, _, _, e, _⟩
  · rw [e]; exact Nat.zero_le _
  · rw [e]
    split
    · exact withV_size s n h0 h1
    · omega
theorem nil_list : (⟨#[]⟩ : ByteArray).toList = ([] : List UInt8) := ByteArray.toList_eq _
theorem lt_irr (a : ByteArray) : Op.bytesLess a.toList a.toList = false := by
  rw [Go.Proofs.bytesLess_eq, decide_eq_false (List.lt_irrefl _)]
/-- A name's key. -/
theorem less_names (a b : ByteArray) (ha : chk a = 0) (hb : chk b = 0) : (lessR a b = true) ↔ (cutA a).toList < (cutA b).toList ∨ ((cutA a).toList = (cutA b).toList ∧ ver (cutB a) < ver (cutB b)) := by
  unfold lessR
  rw [if_pos ⟨ha, hb⟩, Go.Proofs.bytesLess_eq]
  simp
theorem names_eq (a b : ByteArray) (ha : chk a = 0) (hb : chk b = 0) (h1 : (cutA a).toList = (cutA b).toList) (h2 : ver (cutB a) = ver (cutB b)) : a = b := by
  have e1 := join_split a ha
  have e2 := join_split b hb
  have e3 : cutA a = cutA b := ba_ext (by rw [← ByteArray.toList_eq, ← ByteArray.toList_eq]; exact h1)
  rw [e3, h2, e2] at e1
  exact (Prod.mk.inj e1).1.symm
theorem less_irr (a : ByteArray) : lessR a a = false := by
  unfold lessR
  rw [lt_irr, lt_irr]
  simp
end Go.Nm
