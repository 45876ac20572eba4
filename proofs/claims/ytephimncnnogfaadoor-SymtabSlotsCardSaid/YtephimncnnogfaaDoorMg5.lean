import Derived.Test.YtephimncnnogfaaDoorMg4
import Derived.Test.YtephimncnnogfaaDoorAb28
import Derived.Shelf.SlLaysF0
import Derived.Ground.SlsfProg
import Derived.Test.YtephimncnnogfaaDoorMg1
import Derived.Sort.Walk0
import Derived.Lib.ItoaNum
/- What modules export: Hold and Drop. -/
namespace Go.Abs
set_option linter.unusedSimpArgs false
set_option linter.unusedVariables false
set_option maxHeartbeats 4000000
open Go.Proofs Go.Nm Go.Wd
set_option linter.unusedVariables false
set_option linter.unusedSectionVars false
set_option maxRecDepth 8000
variable {H : Heap}
def Sym.cntE (S : Sym) (by_ : Int) (names : List ByteArray) : Int := if decide (0 ≤ fi S.lost names) then 8 else (cntP by_ names S.ents).1
def Sym.cnt (S : Sym) (by_ : Int) (names : List ByteArray) : Sym := if S.cntE by_ names = 0 then ⟨S.mods, (cntP by_ names S.ents).2⟩ else S
theorem Sym.cnt_no {S : Sym} {by_ : Int} {names : List ByteArray} (h : S.cntE by_ names ≠ 0) : S.cnt by_ names = S := if_neg h
theorem oc_makeE {d : Option Tmp} {ty : TypeId} {pos : String} {aft : Array Edge} {g : Option (Nat × Bool)} {t : TypeId} : OC Tryd.prog ⟨d, .makeMap t none, ty, pos, aft, g⟩ [] H (fun r H' => ∃ b, H b = none ∧ r = .s (.map (some b)) ∧ H' = upd H b (entR [])) := oc_makeMap
theorem oc_ent1 {d : Option Tmp} {ty : TypeId} {pos : String} {aft : Array Edge} {g : Option (Nat × Bool)} {s x : Operand} {eb : Nat} {l : List (ByteArray × Ent)} (hm : H eb = some (entR l)) {k : ByteArray} {o : Ent} (ho : (getE k l).getD Ent.zero = o) :
    OC Tryd.prog ⟨d, .lookup 56 s x false, ty, pos, aft, g⟩ [.s (.map (some eb)), .s (.string k)] H (fun r H' => r = .agg o.enc ∧ H' = H) := by
  have h := oc_lookup (d := d) (ty := ty) (pos := pos) (aft := aft) (g := g) (s := s) (x := x) (c := false) strK um56 zt33 hm (k := k) (kT := .s (.string k)) rep_s
  rw [getK_ent] at h
  refine OC.mono h fun r H' hr => ⟨hr.1.trans ?_, hr.2⟩
  subst ho
  cases getE k l <;> rfl
theorem cnt_frame {b nb eb : Nat} {B D E : Root} (hb : H b = none) (hn : H nb = none) (h1 : b ≠ eb) (h2 : nb ≠ eb) : Sub (upd H eb E) (upd (upd (upd H b B) nb D) eb E) := by
  intro p r hp
  have q1 : p ≠ b := by
    rintro rfl
    simp only [upd_eq, if_neg h1] at hp; rw [hb] at hp; cases hp
  have q2 : p ≠ nb := by
    rintro rfl
    simp only [upd_eq, if_neg h2] at hp; rw [hn] at hp; cases hp
  simp only [upd_eq, if_neg q1, if_neg q2] at hp ⊢; exact hp
set_option maxHeartbeats 4000000 in
theorem count_c {t mb eb : Nat} {S : Sym} (hS : SymAt H t mb eb S) (n2 : t ≠ eb) (hf : LFit (S.ents.map (·.2))) (hk : (S.ents.map (·.1)).Nodup) (names : List ByteArray) (hl : names.length < 4611686018427387904) {by_ : Int} (hby : by_ = 1 ∨ by_ = -1) :
    AC Tryd.prog 38 [.s (.pointer (some ⟨t, 0, none⟩)), .vs 1 (names.map s1), .s (.int .i64 by_)] H (fun r H' => r = .s (.int .i64 (S.cntE by_ names)) ∧ H' = upd H eb (entR (S.cnt by_ names).ents)) := by
  refine AC.body Tryd.func38 rfl rfl (n := 61) (res := [.tmp 6]) rfl rfl (by simp) ?_
  simp only [ent]
  have hsame : upd H eb (entR S.ents) = H := upd_same hS.ent
  have hE : S.cntE by_ names = if decide (0 ≤ fi S.lost names) then 8 else (cntP by_ names S.ents).1 := rfl
  replace hE := later hE
  replace hsame := later hsame
  replace hf := later hf
  replace hby := later hby
  (repeat' (first | refine wk ?_ | refine wk2 ?_ ?_ | with_reducible refine wkF fun _ _ _ => ?_ | with_reducible intro _ | exact ag | fail))
  rename_i b hb hbn
  obtain ⟨h1, h2, h3⟩ := hS
  have hbt : b ≠ t := fun q => by rw [q, h1] at hb; cases hb
  have hbm : b ≠ mb := fun q => by rw [q, h2] at hb; cases hb
  have hbe : b ≠ eb := fun q => by rw [q, h3] at hb; cases hb
  have hat : SymAt (upd H b (.cells [.s (.pointer (some ⟨t, 0, none⟩))])) t mb eb S := ⟨by rw [upd_eq, if_neg hbt.symm]; exact h1, by rw [upd_eq, if_neg hbm.symm]; exact h2, by rw [upd_eq, if_neg hbe.symm]; exact h3⟩
  have C := cofS_c names hl 50 [.s (.pointer (some ⟨b, 0, none⟩))] S.lost (upd H b (.cells [.s (.pointer (some ⟨t, 0, none⟩))])) (fun x _ => cnt1_c hat (upd_self _ _ _) x)
  cases q1 : decide (0 ≤ fi S.lost names) with
  | true =>
    have hE := hE.go
    rw [q1, if_pos rfl] at hE
    rw [Sym.cnt_no (S := S) (names := names) (by_ := by_) (by rw [hE]; decide), hE, hsame.go]
    rw [q1] at C
    clear q1
    (repeat' (first | refine wk ?_ | refine wk2 ?_ ?_ | with_reducible refine wkF fun _ _ _ => ?_ | with_reducible intro _ | refine Calling.eq (C) ?_ | exact ag | fail))
    exact fin0
  | false =>
    have hE := hE.go
    rw [q1, if_neg (by decide)] at hE
    rw [q1] at C
    have hno : ∀ s ∈ names, ∃ e, getE s S.ents = some e := fun s hs => by
      have := fi_nn q1 s hs
      unfold Sym.lost at this
      simp at this
      exact Option.isSome_iff_exists.1 (by simpa using this)
    replace hno := later hno
    replace hE := later hE
    replace hat := later hat
    clear q1
    (repeat' (first | refine wk ?_ | refine wk2 ?_ ?_ | with_reducible refine wkF fun _ _ _ => ?_ | with_reducible intro _ | refine Calling.eq (C) ?_ | refine Doing.fresh (oc_makeE) fun _ _ _ => ?_ | exact ag | fail))
    rename_i nb hnb hnbn
    have n1b := (hnbn b (by rw [upd_self]; rfl)).1
    have hnt := (hnbn t (by rw [upd_eq, if_neg hbt.symm, h1]; rfl)).1
    have hnm := (hnbn mb (by rw [upd_eq, if_neg hbm.symm, h2]; rfl)).1
    have hne := (hnbn eb (by rw [upd_eq, if_neg hbe.symm, h3]; rfl)).1
    have hn0 := nu1 hnb
    clear C hnbn
    refine ARun.rounds (fun st : Nat × Ents => ⟨[(2, .s (.int .i64 by_)), (3, .s (.pointer (some ⟨b, 0, none⟩))), (6, .s (.int .i64 0)), (7, .s (.map (some nb))), (18, .vs 1 (names.map s1)), (19, .s (.int .i64 names.length)), (20, .s (.int .i64 (st.1 : Nat)))],
        upd (upd H b (.cells [.s (.pointer (some ⟨t, 0, none⟩))])) nb (entR st.2)⟩) (fun st => names.length - st.1)
      (fun st => st.1 ≤ names.length ∧ (st.2.map (·.1)).Nodup ∧ (∀ k ∈ st.2.map (·.1), k ∈ S.ents.map (·.1)) ∧ LFit ((updE st.2 S.ents).map (·.2)) ∧ cntP by_ names S.ents = cntP by_ (names.drop st.1) (updE st.2 S.ents)) ?_ (0, []) ⟨by simp, by simp, by simp, by rw [updE_nil]; exact hf.go, by rw [updE_nil]; rfl⟩ ?_
    · rintro ⟨i, D⟩ ⟨hi, hd, hsub, hfit, hcnt⟩ next
      simp only [] at hi hd hsub hfit hcnt ⊢
      replace hd := later hd
      replace hsub := later hsub
      replace hfit := later hfit
      by_cases hlt : i < names.length
      · have e1 : (i : Int) < names.length := by omega
        have e2 : (0 : Int) ≤ i := by omega
        obtain ⟨s, hx⟩ := at_ hlt
        have hx1 := vget s1 hx
        rw [s1_def] at hx1
        have hw := w64s (i := i) (by omega)
        obtain ⟨e0, he0⟩ := hno.go s (List.mem_of_getElem? hx)
        have hsk : s ∈ S.ents.map (·.1) := getE_mem.1 (by rw [he0]; rfl)
        have hdrop : names.drop i = s :: names.drop (i + 1) := by
          obtain ⟨hi2, e⟩ := List.getElem?_eq_some_iff.1 hx
          rw [List.drop_eq_getElem_cons hi2, e]
        obtain ⟨e, he⟩ : ∃ e, getE s (updE D S.ents) = some e := ⟨(getE s D).getD e0, by rw [getE_upd, he0]; rfl⟩
        have hee : (getE s D).getD e0 = e := by rw [getE_upd, he0] at he; exact Option.some.inj he
        have hrf : 0 ≤ e.rf ∧ e.rf ≤ 8 := by
          have hm := (getE_some (by rw [updE_keys]; exact hk)).1 he
          exact hfit.go.rf _ (List.mem_map.2 ⟨_, hm, rfl⟩)
        have hwr : IntKind.i64.wrap (e.rf + by_) = e.rf + by_ := w64 (by rcases hby.go with h | h <;> omega) (by rcases hby.go with h | h <;> omega)
        rw [hdrop] at hcnt
        rw [cntP_cons, refP_bump he] at hcnt
        replace hE' := hE.go
        have ed : e.enc = [.s (.string e.nm), .s (.string e.md), .s (.int .i64 e.gt), .s (.int .i64 e.ix), .s (.int .i64 e.rf)] := rfl
        have ea : (e.add by_).enc = [.s (.string e.nm), .s (.string e.md), .s (.int .i64 e.gt), .s (.int .i64 e.ix), .s (.int .i64 (e.rf + by_))] := rfl
        replace hE' := later hE'
        clear hdrop hx
        replace he := later he
        replace hsk := later hsk
        cases hg : getE s D with
        | some e9 =>
          obtain rfl : e9 = e := by rw [hg] at hee; exact hee
          have hqD : (getE s D).isSome = true := by rw [hg]; rfl
          have hoD : (getE s D).getD Ent.zero = e9 := by rw [hg]; rfl
          have hE' := hE'.go
          clear hg hee he0
          cases qa : decide (8 < e9.rf + by_) with
          | true =>
            rw [qa, if_pos rfl] at hcnt
            replace hE' : S.cntE by_ names = 25 := by rw [hE', hcnt]
            rw [Sym.cnt_no (S := S) (names := names) (by_ := by_) (by rw [hE']; decide), hE', hsame.go]
            clear hcnt
            (repeat' (first | refine wk ?_ | refine wk2 ?_ ?_ | with_reducible refine wkF fun _ _ _ => ?_ | with_reducible intro _ | refine Doing.eq (oc_ent (l := D) (ag) hqD hoD) ?_ | exact ag | fail))
            exact fin0
          | false =>
            rw [qa, if_neg (by decide)] at hcnt
            cases qb : decide (e9.rf + by_ < 0) with
            | true =>
              rw [qb, if_pos rfl] at hcnt
              replace hE' : S.cntE by_ names = 2 := by rw [hE', hcnt]
              rw [Sym.cnt_no (S := S) (names := names) (by_ := by_) (by rw [hE']; decide), hE', hsame.go]
              clear hcnt
              (repeat' (first | refine wk ?_ | refine wk2 ?_ ?_ | with_reducible refine wkF fun _ _ _ => ?_ | with_reducible intro _ | refine Doing.eq (oc_ent (l := D) (ag) hqD hoD) ?_ | exact ag | fail))
              exact fin0
            | false =>
              rw [qb, if_neg (by decide)] at hcnt
              have nx := next.go (i + 1, putE s (e9.add by_) D) ⟨by simp only []; omega, putE_nodup hd.go, putE_sub hsub.go hsk.go, by
                rw [upd_bump hk he.go]
                exact bump_fit (by rw [updE_keys]; exact hk) hfit.go he.go (by simpa using qb) (by simpa using qa), by rw [upd_bump hk he.go]; exact hcnt⟩ (by simp only []; omega)
              simp only [] at nx
              replace nx := later nx
              clear hcnt hE'
              (repeat' (first | refine wk ?_ | refine wk2 ?_ ?_ | with_reducible refine wkF fun _ _ _ => ?_ | with_reducible intro _ | refine Doing.eq (oc_ent (l := D) (ag) hqD hoD) ?_ | refine Doing.eq (oc_putEnt (l := D) (e := e9.add by_) (ag)) ?_ | exact ag | fail))
              exact ARun.weaken nx.go (leK (by exact sb))
        | none =>
          obtain rfl : e0 = e := by rw [hg] at hee; exact hee
          have hqD : (getE s D).isSome = false := by rw [hg]; rfl
          have hoD : (getE s D).getD Ent.zero = Ent.zero := by rw [hg]; rfl
          have ho1 : (getE s S.ents).getD Ent.zero = e0 := by rw [he0]; rfl
          have z : Ent.zero.enc = [.s (.string ByteArray.empty), .s (.string ByteArray.empty), .s (.int .i64 0), .s (.int .i64 0), .s (.int .i64 0)] := rfl
          have hE' := hE'.go
          clear hg hee he0
          cases qa : decide (8 < e0.rf + by_) with
          | true =>
            rw [qa, if_pos rfl] at hcnt
            replace hE' : S.cntE by_ names = 25 := by rw [hE', hcnt]
            rw [Sym.cnt_no (S := S) (names := names) (by_ := by_) (by rw [hE']; decide), hE', hsame.go]
            clear hcnt
            (repeat' (first | refine wk ?_ | refine wk2 ?_ ?_ | with_reducible refine wkF fun _ _ _ => ?_ | with_reducible intro _ | refine Doing.eq (oc_ent (l := D) (ag) hqD hoD) ?_ | refine Doing.eq (oc_ent1 (l := S.ents) (ag) ho1) ?_ | exact ag | fail))
            exact fin0
          | false =>
            rw [qa, if_neg (by decide)] at hcnt
            cases qb : decide (e0.rf + by_ < 0) with
            | true =>
              rw [qb, if_pos rfl] at hcnt
              replace hE' : S.cntE by_ names = 2 := by rw [hE', hcnt]
              rw [Sym.cnt_no (S := S) (names := names) (by_ := by_) (by rw [hE']; decide), hE', hsame.go]
              clear hcnt
              (repeat' (first | refine wk ?_ | refine wk2 ?_ ?_ | with_reducible refine wkF fun _ _ _ => ?_ | with_reducible intro _ | refine Doing.eq (oc_ent (l := D) (ag) hqD hoD) ?_ | refine Doing.eq (oc_ent1 (l := S.ents) (ag) ho1) ?_ | exact ag | fail))
              exact fin0
            | false =>
              rw [qb, if_neg (by decide)] at hcnt
              have nx := next.go (i + 1, putE s (e0.add by_) D) ⟨by simp only []; omega, putE_nodup hd.go, putE_sub hsub.go hsk.go, by
                rw [upd_bump hk he.go]
                exact bump_fit (by rw [updE_keys]; exact hk) hfit.go he.go (by simpa using qb) (by simpa using qa), by rw [upd_bump hk he.go]; exact hcnt⟩ (by simp only []; omega)
              simp only [] at nx
              replace nx := later nx
              clear hcnt hE'
              (repeat' (first | refine wk ?_ | refine wk2 ?_ ?_ | with_reducible refine wkF fun _ _ _ => ?_ | with_reducible intro _ | refine Doing.eq (oc_ent (l := D) (ag) hqD hoD) ?_ | refine Doing.eq (oc_ent1 (l := S.ents) (ag) ho1) ?_ | refine Doing.eq (oc_putEnt (l := D) (e := e0.add by_) (ag)) ?_ | exact ag | fail))
              exact ARun.weaken nx.go (leK (by exact sb))
      · have e1 : decide ((i : Int) < names.length) = false := by simp; omega
        obtain rfl : i = names.length := by omega
        rw [List.drop_length] at hcnt
        have hE' := hE.go
        rw [hcnt] at hE'
        have hE2 : S.cntE by_ names = 0 := hE'
        have hr : S.cnt by_ names = ⟨S.mods, updE D S.ents⟩ := by
          have : S.cnt by_ names = ⟨S.mods, (cntP by_ names S.ents).2⟩ := if_pos hE2
          rw [this, hcnt]; rfl
        rw [hE2, hr]
        have Q := copyE_c (H := upd (upd H b (.cells [.s (.pointer (some ⟨t, 0, none⟩))])) nb (entR D)) (eb := eb) (nb := nb) (ents := S.ents) (D := D) (by rw [upd_eq, if_neg (by rw [hne]; exact id), upd_eq, if_neg hbe.symm]; exact h3) (upd_self _ _ _) hk hd.go hsub.go (fun q => by rw [q] at hne; simp at hne)
        clear hcnt hE2 hr next
        (repeat' (first | refine wk ?_ | refine wk2 ?_ ?_ | with_reducible refine wkF fun _ _ _ => ?_ | with_reducible intro _ | refine Calling.eq (Q) ?_ | exact ag | fail))
        exact Fin.plain agr (cnt_frame hb hn0 hbe (fun q => by rw [q] at hne; simp at hne)) ⟨rfl, rfl⟩
    · exact leK (Sub.refl _)
end Go.Abs
/- What modules export: names in their order, entries sorted. -/
namespace Go.Proofs
open Go.Shelf Go.RowKit Go.Lib
def Tryd.sortEnt_ren : Go.Shelf.Ren := ⟨fun | 6 => 28 | 15 => 46 | 14 => 45 | 28 => 65 | 29 => 66 | 20 => 57 | 21 => 58 | 22 => 59 | 23 => 60 | 24 => 61 | 25 => 62 | 26 => 63 | 27 => 64 | 46 => 75 | 47 => 76 | 48 => 77 | 49 => 78 | 50 => 79 | 57 => 86 | n => n, fun | 22 => 28 | 24 => 33 | 25 => 62 | 3 => 3 | 39 => 82 | 0 => 0 | 53 => 30 | 55 => 98 | 4 => 4 | 46 => 90 | 45 => 89 | 50 => 94 | 5 => 5 | 9 => 9 | 66 => 103 | 70 => 107 | 76 => 115 | 77 => 116 | n => n, fun | n => n⟩
theorem Tryd.sortEnt : Go.Proofs.SlLaysF0.n6 Tryd.prog Tryd.sortEnt_ren := {
  mixed := by kernel_rfl
  f6 := ⟨Tryd.f28.name, by decide, Tryd.func28.trans (congrArg some (by kernel_rfl))⟩
  f14 := ⟨Tryd.f45.name, by decide, Tryd.func45.trans (congrArg some (by kernel_rfl))⟩
  f15 := Tryd.func46.trans (congrArg some (by kernel_rfl))
  f20 := ⟨Tryd.f57.name, by decide, Tryd.func57.trans (congrArg some (by kernel_rfl))⟩
  f21 := ⟨Tryd.f58.name, by decide, Tryd.func58.trans (congrArg some (by kernel_rfl))⟩
  f22 := ⟨Tryd.f59.name, by decide, Tryd.func59.trans (congrArg some (by kernel_rfl))⟩
  f23 := ⟨Tryd.f60.name, by decide, Tryd.func60.trans (congrArg some (by kernel_rfl))⟩
  f24 := ⟨Tryd.f61.name, by decide, Tryd.func61.trans (congrArg some (by kernel_rfl))⟩
  f25 := ⟨Tryd.f62.name, by decide, Tryd.func62.trans (congrArg some (by kernel_rfl))⟩
  f26 := ⟨Tryd.f63.name, by decide, Tryd.func63.trans (congrArg some (by kernel_rfl))⟩
  f27 := ⟨Tryd.f64.name, by decide, Tryd.func64.trans (congrArg some (by kernel_rfl))⟩
  f28 := Tryd.func65.trans (congrArg some (by kernel_rfl))
  f29 := Tryd.func66.trans (congrArg some (by kernel_rfl))
  f46 := ⟨Tryd.f75.name, by decide, Tryd.func75.trans (congrArg some (by kernel_rfl))⟩
  f47 := Tryd.func76.trans (congrArg some (by kernel_rfl))
  f48 := Tryd.func77.trans (congrArg some (by kernel_rfl))
  f49 := ⟨Tryd.f78.name, by decide, Tryd.func78.trans (congrArg some (by kernel_rfl))⟩
  f50 := ⟨Tryd.f79.name, by decide, Tryd.func79.trans (congrArg some (by kernel_rfl))⟩
  f57 := ⟨Tryd.f86.name, by decide, Tryd.func86.trans (congrArg some (by kernel_rfl))⟩
  t0 := Tryd.underlying0
  a0 := Tryd.isAgg0
  z0 := Tryd.sizeOf0
  v0 := Tryd.zeroValue0
  t3 := Tryd.underlying3
  a3 := Tryd.isAgg3
  z3 := Tryd.sizeOf3
  v3 := Tryd.zeroValue3
  t4 := Tryd.underlying4
  a4 := Tryd.isAgg4
  z4 := Tryd.sizeOf4
  v4 := Tryd.zeroValue4
  t5 := Tryd.underlying5
  a5 := Tryd.isAgg5
  z5 := Tryd.sizeOf5
  v5 := Tryd.zeroValue5
  t9 := Tryd.underlying9
  a9 := Tryd.isAgg9
  z9 := Tryd.sizeOf9
  v9 := Tryd.zeroValue9
  t22 := Tryd.underlying28
  a22 := Tryd.isAgg28
  z22 := Tryd.sizeOf28
  v22 := Tryd.zeroValue28
  t25 := Tryd.underlying62
  a25 := Tryd.isAgg62
  z25 := Tryd.sizeOf62
  v25 := Tryd.zeroValue62
  t39 := Tryd.underlying82
  a39 := Tryd.isAgg82
  z39 := Tryd.sizeOf82
  v39 := Tryd.zeroValue82
  t45 := Tryd.underlying89
  a45 := Tryd.isAgg89
  z45 := Tryd.sizeOf89
  v45 := Tryd.zeroValue89
  t46 := Tryd.underlying90
  a46 := Tryd.isAgg90
  z46 := Tryd.sizeOf90
  v46 := Tryd.zeroValue90
  t50 := Tryd.underlying94
  a50 := Tryd.isAgg94
  z50 := Tryd.sizeOf94
  v50 := Tryd.zeroValue94
  t53 := Tryd.underlying30
  a53 := Tryd.isAgg30
  z53 := Tryd.sizeOf30
  v53 := Tryd.zeroValue30
  t55 := Tryd.underlying98
  a55 := Tryd.isAgg98
  z55 := Tryd.sizeOf98
  v55 := Tryd.zeroValue98
  t66 := Tryd.underlying103
  a66 := Tryd.isAgg103
  z66 := Tryd.sizeOf103
  v66 := Tryd.zeroValue103
  t70 := Tryd.underlying107
  a70 := Tryd.isAgg107
  z70 := Tryd.sizeOf107
  v70 := Tryd.zeroValue107
  t76 := Tryd.underlying115
  a76 := Tryd.isAgg115
  z76 := Tryd.sizeOf115
  v76 := Tryd.zeroValue115
  t77 := Tryd.underlying116
  a77 := Tryd.isAgg116
  z77 := Tryd.sizeOf116
  v77 := Tryd.zeroValue116 }
end Go.Proofs
namespace Go.Abs
set_option linter.unusedSimpArgs false
set_option linter.unusedVariables false
set_option maxHeartbeats 4000000
open Go.Proofs Go.Nm Go.Wd
set_option linter.unusedVariables false
set_option linter.unusedSectionVars false
set_option maxRecDepth 8000
variable {H : Heap}
theorem isAggE (w : World) : (isAgg 33).run Tryd.prog w = .ok true w := by kernel_rfl
theorem sizeE (w : World) : (Go.sizeOf 33).run Tryd.prog w = .ok 5 w := by kernel_rfl
theorem less_c {G : Heap} (g : GH G) (hs : Sub G H) {a b : ByteArray} (ha : fits a) (hb : fits b) : AC Tryd.prog 30 [.s (.string a), .s (.string b)] H (fun r H' => r = .s (.bool (lessS a b)) ∧ H' = H) := by
  refine AC.body Tryd.func30 rfl rfl (n := 45) (res := [.tmp 4]) rfl rfl (by simp) ?_
  simp only [ent]
  have A := split_c (H := H) g hs ha
  have B := split_c (H := H) g hs hb
  rw [splitR_e] at A B
  unfold lessS
  clear ha hb g hs
  generalize (splitR a).1 = x at *
  generalize (splitR b).1 = y at *
  generalize (splitR a).2.1 = m at *
  generalize (splitR b).2.1 = n at *
  cases q1 : (chk a != 0) <;> cases q2 : (chk b != 0)
  · simp only [Bool.or_self, Bool.false_eq_true, if_false]
    cases q3 : Op.bytesLess x.toList y.toList <;> cases q4 : (x.toList == y.toList) <;> simp only [Bool.true_or, Bool.false_or, Bool.true_and, Bool.false_and, Bool.or_false]
    all_goals
      (repeat' (first | refine wk ?_ | refine wk2 ?_ ?_ | with_reducible refine wkF fun _ _ _ => ?_ | with_reducible intro _ | refine Calling.eq (A) ?_ | refine Calling.eq (B) ?_ | exact ag | fail))
      exact fin0
  all_goals
    simp only [Bool.or_true, Bool.true_or, if_true]
    (repeat' (first | refine wk ?_ | refine wk2 ?_ ?_ | with_reducible refine wkF fun _ _ _ => ?_ | with_reducible intro _ | refine Calling.eq (A) ?_ | refine Calling.eq (B) ?_ | exact ag | fail))
    exact fin0
def cmpE (x y : Ent) : Int := if lessS x.nm y.nm then -1 else if lessS y.nm x.nm then 1 else 0
theorem cmpE_c {G : Heap} (g : GH G) (hs : Sub G H) {x y : Ent} (hx : fits x.nm) (hy : fits y.nm) : AC Tryd.prog 29 [.agg x.enc, .agg y.enc] H (fun r H' => r = .s (.int .i64 (cmpE x y)) ∧ H' = H) := by
  refine AC.body Tryd.func29 rfl rfl (n := 17) (res := [.tmp 4]) rfl rfl (by simp) ?_
  simp only [ent]
  simp only [Ent.enc_def]
  unfold cmpE
  (repeat' (first | refine wk ?_ | refine wk2 ?_ ?_ | with_reducible refine wkF fun _ _ _ => ?_ | with_reducible intro _ | exact ag | fail))
  rename_i v hv _ w hw _
  have h1 := Sub.upd hs (r := .cells x.enc) (hs.none hv)
  have h2 := Sub.upd h1 (r := .cells y.enc) (h1.none hw)
  have A := less_c g h2 hx hy
  have B := less_c g h2 hy hx
  simp only [Ent.enc_def] at A B
  clear hx hy g hs h1 h2
  cases q1 : lessS x.nm y.nm with
  | true =>
    rw [q1] at A
    simp only [if_true]
    (repeat' (first | refine wk ?_ | refine wk2 ?_ ?_ | with_reducible refine wkF fun _ _ _ => ?_ | with_reducible intro _ | refine Calling.eq (A) ?_ | refine Calling.eq (B) ?_ | exact ag | fail))
    exact fin0
  | false =>
    rw [q1] at A
    simp only [Bool.false_eq_true, if_false]
    cases q2 : lessS y.nm x.nm with
    | true =>
      rw [q2] at B
      simp only [if_true]
      (repeat' (first | refine wk ?_ | refine wk2 ?_ ?_ | with_reducible refine wkF fun _ _ _ => ?_ | with_reducible intro _ | refine Calling.eq (A) ?_ | refine Calling.eq (B) ?_ | exact ag | fail))
      exact fin0
    | false =>
      rw [q2] at B
      simp only [Bool.false_eq_true, if_false]
      (repeat' (first | refine wk ?_ | refine wk2 ?_ ?_ | with_reducible refine wkF fun _ _ _ => ?_ | with_reducible intro _ | refine Calling.eq (A) ?_ | refine Calling.eq (B) ?_ | exact ag | fail))
      exact fin0
end Go.Abs
/- Names, pure: folding, parts and joins, the order. No program. -/
namespace Go.Nm
open Go.Lib Go.RowKit
set_option linter.unusedVariables false
theorem itoa_size (n : Int) (h0 : 0 ≤ n) (h1 : n ≤ 999) : (⟨(Lib.itoa n).toArray⟩ : ByteArray).size ≤ 17 := by
  have k : ∀ m : Fin 1000, (Lib.itoa ((m.val : Nat) : Int)).length ≤ 17 := by decide +kernel
  have := k ⟨n.toNat, by omega⟩
  simp only [Int.toNat_of_nonneg h0] at this
  exact this
theorem ext_get {a b : ByteArray} (hs : a.size = b.size) (h : ∀ i, i < a.size → (a.get! i).toNat = (b.get! i).toNat) : a = b := by
  apply ba_ext
  refine List.ext_getElem (by rw [← Lib.size_eq, ← Lib.size_eq, hs]) fun i h1 h2 => ?_
  have := h i (by rw [Lib.size_eq]; exact h1)
  rw [get!_list, get!_list, List.getD_eq_getElem?_getD, List.getD_eq_getElem?_getD, List.getElem?_eq_getElem h1, List.getElem?_eq_getElem h2] at this
  exact UInt8.toNat_inj.mp this
theorem get!_ex0 (s : ByteArray) (a b i : Nat) (hb : b ≤ s.size) (hi : i < b - a) : (s.extract a b).get! i = s.get! (a + i) := by
  rw [get!_list, get!_list, Lib.extract_data]
  simp only [List.getD_eq_getElem?_getD, List.getElem?_take, List.getElem?_drop, if_pos hi]
def lessR (a b : ByteArray) : Bool :=
  if chk a = 0 ∧ chk b = 0 then Op.bytesLess (cutA a).toList (cutA b).toList || (decide ((cutA a).toList = (cutA b).toList) && decide (ver (cutB a) < ver (cutB b))) else Op.bytesLess a.toList b.toList
def withV (s : ByteArray) (n : Int) : ByteArray := s ++ ((⟨#[64]⟩ : ByteArray) ++ ⟨(Lib.itoa n).toArray⟩)
theorem withV_size (s : ByteArray) (n : Int) (h0 : 0 ≤ n) (h1 : n ≤ 999) : (withV s n).size ≤ s.size + 18 := by
  unfold withV
  have := itoa_size n h0 h1
  rw [ByteArray.size_append, ByteArray.size_append]
  have e : (⟨#[64]⟩ : ByteArray).size = 1 := rfl
  omega
/-- What Join tells. -/
def joinR (s : ByteArray) (n : Int) : ByteArray × Int :=
  if n < 0 ∨ n > 999 then ((⟨#[]⟩ : ByteArray), 2) else if has s = true then ((⟨#[]⟩ : ByteArray), 6) else
    if chk (if n > 0 then withV s n else s) = 0 then ((if n > 0 then withV s n else s), 0) else ((⟨#[]⟩ : ByteArray), chk (if n > 0 then withV s n else s))
theorem ver_step (s : ByteArray) (f p : Nat) (n : Int) (h : p < s.size) : verFrom s (f + 1) p n = if 48 ≤ (s.get! p).toNat ∧ (s.get! p).toNat ≤ 57 then verFrom s f (p + 1) (wrap64 (wrap64 (10 * n) + (((s.get! p).toNat : Int) - 48))) else 0 := by
  rw [verFrom, if_pos h]
  by_cases ha : (s.get! p).toNat < 128
  · rw [dec_ascii s p ha]
    by_cases hd : 48 ≤ (s.get! p).toNat ∧ (s.get! p).toNat ≤ 57
    · rw [if_pos hd, if_neg (by omega)]
    · rw [if_neg hd, if_pos (by omega)]
  · have := dec_high s p ha
    rw [if_pos (by omega), if_neg (by omega)]
/-- The text of so many bytes. -/
def tx (l : List Nat) : ByteArray := ⟨(l.map UInt8.ofNat).toArray⟩
theorem get_tx (s : ByteArray) : s = tx (s.data.toList.map UInt8.toNat) := by
  apply ba_ext
  unfold tx
  simp [Function.comp_def]
theorem itoa1 : ∀ a : Fin 10, a.val ≠ 0 → ((Lib.itoa ((a.val : Nat) : Int)) = [UInt8.ofNat (48 + a.val)]) := by decide +kernel
theorem itoa2 : ∀ a b : Fin 10, a.val ≠ 0 → ((Lib.itoa ((10 * a.val + b.val : Nat) : Int)) = [UInt8.ofNat (48 + a.val), UInt8.ofNat (48 + b.val)]) := by decide +kernel
theorem itoa3 : ∀ a b c : Fin 10, a.val ≠ 0 → ((Lib.itoa ((100 * a.val + 10 * b.val + c.val : Nat) : Int)) = [UInt8.ofNat (48 + a.val), UInt8.ofNat (48 + b.val), UInt8.ofNat (48 + c.val)]) := by decide +kernel
theorem list_of_get (s : ByteArray) (n : Nat) (h : s.size = n) : s.data.toList = (List.range n).map fun i => s.get! i := by
  refine List.ext_getElem (by rw [← Lib.size_eq, h]; simp) fun i h1 h2 => ?_
  rw [List.getElem_map, List.getElem_range, get!_list, List.getD_eq_getElem?_getD, List.getElem?_eq_getElem h1]
  rfl
theorem u8_of (x : UInt8) (d : Nat) (h : x.toNat = 48 + d) : x = UInt8.ofNat (48 + d) := by rw [← h, UInt8.ofNat_toNat]
/-- A version that is none of 0 is the text of its digits, from 1 to 999. -/
theorem ver_back (s : ByteArray) (h : ver s ≠ 0) : 0 < ver s ∧ ver s ≤ 999 ∧ s = ⟨(Lib.itoa (ver s)).toArray⟩ := by
  have hz : ¬ (s.size = 0 ∨ 3 < s.size ∨ (s.get! 0).toNat = 48) := fun hc => h (by unfold ver; rw [if_pos hc])
  have hv : ver s = verFrom s s.size 0 0 := by unfold ver; rw [if_neg hz]
  obtain ⟨x0, hx0⟩ : ∃ x, (s.get! 0).toNat = x := ⟨_, rfl⟩
  obtain ⟨x1, hx1⟩ : ∃ x, (s.get! 1).toNat = x := ⟨_, rfl⟩
  obtain ⟨x2, hx2⟩ : ∃ x, (s.get! 2).toNat = x := ⟨_, rfl⟩
  have key : ∀ v : Int, ver s = v → (0 < v ∧ v ≤ 999 ∧ s.data.toList = Lib.itoa v) → 0 < ver s ∧ ver s ≤ 999 ∧ s = ⟨(Lib.itoa (ver s)).toArray⟩ := fun v e ⟨h1, h2, h3⟩ => by
    rw [e]
    exact ⟨h1, h2, ba_ext (by simpa using h3)⟩
  have hs : s.size = 1 ∨ s.size = 2 ∨ s.size = 3 := by omega
  rcases hs with hs | hs | hs
  · rw [hs, ver_step s 0 0 0 (by omega), verFrom_end _ _ _ _ (by omega), hx0] at hv
    by_cases hd : 48 ≤ x0 ∧ x0 ≤ 57
    · rw [if_pos hd, show wrap64 ((10 : Int) * 0) = 0 by unfold wrap64; decide, w64 (by omega) (by omega)] at hv
      refine key (x0 - 48) (by omega) ⟨by omega, by omega, ?_⟩
      have := itoa1 ⟨x0 - 48, by omega⟩ (by simp only; omega)
      simp only at this
      rw [show ((x0 : Int) - 48) = ((x0 - 48 : Nat) : Int) by omega, this, list_of_get s 1 hs]
      simp only [List.range_succ, List.range_zero, List.nil_append, List.map_cons, List.map_nil]
      rw [u8_of (s.get! 0) (x0 - 48) (by omega)]
    · rw [if_neg hd] at hv; exact absurd hv h
  · rw [hs, ver_step s 1 0 0 (by omega), ver_step s 0 1 _ (by omega), verFrom_end _ _ _ _ (by omega), hx0, hx1] at hv
    by_cases hd : 48 ≤ x0 ∧ x0 ≤ 57
    · by_cases hd1 : 48 ≤ x1 ∧ x1 ≤ 57
      · rw [if_pos hd, if_pos hd1, show wrap64 ((10 : Int) * 0) = 0 by unfold wrap64; decide, w64 (x := 0 + ((x0 : Int) - 48)) (by omega) (by omega), w64 (x := 10 * (0 + ((x0 : Int) - 48))) (by omega) (by omega), w64 (by omega) (by omega)] at hv
        refine key (10 * (x0 - 48) + (x1 - 48)) (by omega) ⟨by omega, by omega, ?_⟩
        have := itoa2 ⟨x0 - 48, by omega⟩ ⟨x1 - 48, by omega⟩ (by simp only; omega)
        simp only at this
        rw [show (10 * ((x0 : Int) - 48) + (x1 - 48)) = ((10 * (x0 - 48) + (x1 - 48) : Nat) : Int) by omega, this, list_of_get s 2 hs]
        simp only [List.range_succ, List.range_zero, List.nil_append, List.map_cons, List.map_nil, List.cons_append]
        rw [u8_of (s.get! 0) (x0 - 48) (by omega), u8_of (s.get! 1) (x1 - 48) (by omega)]
      · rw [if_pos hd, if_neg hd1] at hv; exact absurd hv h
    · rw [if_neg hd] at hv; exact absurd hv h
  · rw [hs, ver_step s 2 0 0 (by omega), ver_step s 1 1 _ (by omega), ver_step s 0 2 _ (by omega), verFrom_end _ _ _ _ (by omega), hx0, hx1, hx2] at hv
    by_cases hd : 48 ≤ x0 ∧ x0 ≤ 57
    · by_cases hd1 : 48 ≤ x1 ∧ x1 ≤ 57
      · by_cases hd2 : 48 ≤ x2 ∧ x2 ≤ 57
        · rw [if_pos hd, if_pos hd1, if_pos hd2, show wrap64 ((10 : Int) * 0) = 0 by unfold wrap64; decide, w64 (x := 0 + ((x0 : Int) - 48)) (by omega) (by omega), w64 (x := 10 * (0 + ((x0 : Int) - 48))) (by omega) (by omega), w64 (x := 10 * (0 + ((x0 : Int) - 48)) + ((x1 : Int) - 48)) (by omega) (by omega), w64 (x := 10 * (10 * (0 + ((x0 : Int) - 48)) + ((x1 : Int) - 48))) (by omega) (by omega), w64 (by omega) (by omega)] at hv
          refine key (100 * (x0 - 48) + 10 * (x1 - 48) + (x2 - 48)) (by omega) ⟨by omega, by omega, ?_⟩
          have := itoa3 ⟨x0 - 48, by omega⟩ ⟨x1 - 48, by omega⟩ ⟨x2 - 48, by omega⟩ (by simp only; omega)
          simp only at this
          rw [show (100 * ((x0 : Int) - 48) + 10 * (x1 - 48) + (x2 - 48)) = ((100 * (x0 - 48) + 10 * (x1 - 48) + (x2 - 48) : Nat) : Int) by omega, this, list_of_get s 3 hs]
          simp only [List.range_succ, List.range_zero, List.nil_append, List.map_cons, List.map_nil, List.cons_append]
          rw [u8_of (s.get! 0) (x0 - 48) (by omega), u8_of (s.get! 1) (x1 - 48) (by omega), u8_of (s.get! 2) (x2 - 48) (by omega)]
        · rw [if_pos hd, if_pos hd1, if_neg hd2] at hv; exact absurd hv h
      · rw [if_pos hd, if_neg hd1] at hv; exact absurd hv h
    · rw [if_neg hd] at hv; exact absurd hv h
/-- The digits of a number from 1 to 999, and how they are read. -/
theorem ver_itoa (n : Int) (h0 : 0 < n) (h1 : n ≤ 999) : ver ⟨(Lib.itoa n).toArray⟩ = n ∧ ∀ i, ((⟨(Lib.itoa n).toArray⟩ : ByteArray).get! i).toNat ≠ 64 := by
  have fin : ∀ s : ByteArray, ∀ l : List Nat, s.data.toList = l.map (fun d => UInt8.ofNat (48 + d)) → (∀ d ∈ l, d < 10) → ∀ i, i < s.size → ∃ d, l[i]? = some d ∧ (s.get! i).toNat = 48 + d := fun s l hl hd i hi => by
    have hi2 : i < l.length := by have := Lib.size_eq s; rw [hl, List.length_map] at this; omega
    refine ⟨l[i], List.getElem?_eq_getElem hi2, ?_⟩
    rw [get!_list, hl, List.getD_eq_getElem?_getD, List.getElem?_map, List.getElem?_eq_getElem hi2]
    have := hd l[i] (List.getElem_mem hi2)
    simp only [Option.map_some, Option.getD_some]
    exact UInt8.toNat_ofNat_of_lt' (by have : UInt8.size = 256 := rfl; omega)
  have all : ∀ s : ByteArray, ∀ l : List Nat, s.data.toList = l.map (fun d => UInt8.ofNat (48 + d)) → (∀ d ∈ l, d < 10) → ∀ i, (s.get! i).toNat ≠ 64 := fun s l hl hd i => by
    by_cases hi : i < s.size
    · obtain ⟨d, e1, e2⟩ := fin s l hl hd i hi
      have := hd d (List.mem_of_getElem? e1)
      omega
    · rw [get!_out s i (by omega)]; decide
  obtain ⟨s, hs⟩ : ∃ s : ByteArray, s = ⟨(Lib.itoa n).toArray⟩ := ⟨_, rfl⟩
  have hl : s.data.toList = Lib.itoa n := by rw [hs]
  rw [← hs]
  clear hs
  have hcase : n < 10 ∨ (10 ≤ n ∧ n < 100) ∨ 100 ≤ n := by omega
  rcases hcase with hc | hc | hc
  · have e := itoa1 ⟨n.toNat, by omega⟩ (by simp only; omega)
    simp only [Int.toNat_of_nonneg (show 0 ≤ n by omega)] at e
    rw [e] at hl
    have hd : ∀ d ∈ [n.toNat], d < 10 := by simp; omega
    have hz : s.size = 1 := by rw [Lib.size_eq, hl]; rfl
    have f0 := fin s [n.toNat] hl hd 0 (by omega)
    obtain ⟨d0, a0, b0⟩ := f0
    simp at a0
    refine ⟨?_, all s [n.toNat] hl hd⟩
    unfold ver
    rw [if_neg (by omega), hz, ver_step s 0 0 0 (by omega), verFrom_end _ _ _ _ (by omega), b0, if_pos (by omega), show wrap64 ((10 : Int) * 0) = 0 by unfold wrap64; decide, w64 (by omega) (by omega)]
    omega
  · have e := itoa2 ⟨(n / 10).toNat, by omega⟩ ⟨(n % 10).toNat, by omega⟩ (by simp only; omega)
    simp only at e
    rw [show ((10 * (n / 10).toNat + (n % 10).toNat : Nat) : Int) = n by omega] at e
    rw [e] at hl
    have hd : ∀ d ∈ [(n / 10).toNat, (n % 10).toNat], d < 10 := by simp; omega
    have hz : s.size = 2 := by rw [Lib.size_eq, hl]; rfl
    obtain ⟨d0, a0, b0⟩ := fin s [(n / 10).toNat, (n % 10).toNat] hl hd 0 (by omega)
    obtain ⟨d1, a1, b1⟩ := fin s [(n / 10).toNat, (n % 10).toNat] hl hd 1 (by omega)
    simp at a0 a1
    refine ⟨?_, all s [(n / 10).toNat, (n % 10).toNat] hl hd⟩
    unfold ver
    rw [if_neg (by omega), hz, ver_step s 1 0 0 (by omega), ver_step s 0 1 _ (by omega), verFrom_end _ _ _ _ (by omega), b0, b1, if_pos (by omega), if_pos (by omega), show wrap64 ((10 : Int) * 0) = 0 by unfold wrap64; decide, w64 (x := 0 + (((48 + d0 : Nat) : Int) - 48)) (by omega) (by omega), w64 (x := 10 * (0 + (((48 + d0 : Nat) : Int) - 48))) (by omega) (by omega), w64 (by omega) (by omega)]
    omega
  · have e := itoa3 ⟨(n / 100).toNat, by omega⟩ ⟨(n / 10 % 10).toNat, by omega⟩ ⟨(n % 10).toNat, by omega⟩ (by simp only; omega)
    simp only at e
    rw [show ((100 * (n / 100).toNat + 10 * (n / 10 % 10).toNat + (n % 10).toNat : Nat) : Int) = n by omega] at e
    rw [e] at hl
    have hd : ∀ d ∈ [(n / 100).toNat, (n / 10 % 10).toNat, (n % 10).toNat], d < 10 := by simp; omega
    have hz : s.size = 3 := by rw [Lib.size_eq, hl]; rfl
    obtain ⟨d0, a0, b0⟩ := fin s [(n / 100).toNat, (n / 10 % 10).toNat, (n % 10).toNat] hl hd 0 (by omega)
    obtain ⟨d1, a1, b1⟩ := fin s [(n / 100).toNat, (n / 10 % 10).toNat, (n % 10).toNat] hl hd 1 (by omega)
    obtain ⟨d2, a2, b2⟩ := fin s [(n / 100).toNat, (n / 10 % 10).toNat, (n % 10).toNat] hl hd 2 (by omega)
    simp at a0 a1 a2
    refine ⟨?_, all s [(n / 100).toNat, (n / 10 % 10).toNat, (n % 10).toNat] hl hd⟩
    unfold ver
    rw [if_neg (by omega), hz, ver_step s 2 0 0 (by omega), ver_step s 1 1 _ (by omega), ver_step s 0 2 _ (by omega), verFrom_end _ _ _ _ (by omega), b0, b1, b2, if_pos (by omega), if_pos (by omega), if_pos (by omega), show wrap64 ((10 : Int) * 0) = 0 by unfold wrap64; decide,
      w64 (x := 0 + (((48 + d0 : Nat) : Int) - 48)) (by omega) (by omega), w64 (x := 10 * (0 + (((48 + d0 : Nat) : Int) - 48))) (by omega) (by omega), w64 (x := 10 * (0 + (((48 + d0 : Nat) : Int) - 48)) + (((48 + d1 : Nat) : Int) - 48)) (by omega) (by omega), w64 (x := 10 * (10 * (0 + (((48 + d0 : Nat) : Int) - 48)) + (((48 + d1 : Nat) : Int) - 48))) (by omega) (by omega), w64 (by omega) (by omega)]
    omega
theorem ver_range (s : ByteArray) : 0 ≤ ver s ∧ ver s ≤ 999 := by
  by_cases h : ver s = 0
  · omega
  · obtain ⟨h1, h2, _⟩ := ver_back s h; omega

/-! ### parts -/
theorem has_cutA (s : ByteArray) : has (cutA s) = false := by
  rcases at_spec s with ⟨h1, h2, h3, h4⟩ | ⟨j, hj, h1, h2, h3, h4, h5⟩
  · rw [h2, h1]
  · rcases at_spec (cutA s) with ⟨g1, _⟩ | ⟨i, hi, g1, g2, g3, g4, g5⟩
    · exact g1
    · rw [h2] at g4 hi
      rw [ex_size _ _ _ (by omega)] at hi
      rw [get!_ex0 s 0 j i (by omega) hi, Nat.zero_add] at g4
      exact absurd g4 (h5 i (by omega))
theorem no_has (s : ByteArray) (h : has s = false) : cutA s = s ∧ ver (cutB s) = 0 := by
  rcases at_spec s with ⟨h1, h2, h3, h4⟩ | ⟨j, hj, h1, h2, h3, h4, h5⟩
  · exact ⟨h2, by rw [h3]; rfl⟩
  · rw [h1] at h; cases h
theorem get!_app (a b : ByteArray) (i : Nat) : (a ++ b).get! i = if i < a.size then a.get! i else b.get! (i - a.size) := by
  rw [get!_list, get!_list, get!_list]
  have : (a ++ b).data.toList = a.data.toList ++ b.data.toList := by simp [ByteArray.data_append]
  rw [this, List.getD_eq_getElem?_getD, List.getD_eq_getElem?_getD, List.getD_eq_getElem?_getD, List.getElem?_append, Lib.size_eq a]
  split <;> rfl
/-- A text with an '@' is its parts, an '@' between. -/
theorem parts_back (s : ByteArray) (h : has s = true) : s = cutA s ++ ((⟨#[64]⟩ : ByteArray) ++ cutB s) := by
  rcases at_spec s with ⟨h1, h2, h3, h4⟩ | ⟨j, hj, h1, h2, h3, h4, h5⟩
  · rw [h1] at h; cases h
  · have e1 : (⟨#[64]⟩ : ByteArray).size = 1 := rfl
    rw [h2, h3]
    refine ext_get ?_ fun i hi => ?_
    · rw [ByteArray.size_append, ByteArray.size_append, ex_size _ _ _ (by omega), ex_size _ _ _ (by omega)]; omega
    · rw [get!_app, get!_app, ex_size _ _ _ (by omega), e1]
      by_cases c1 : i < j
      · rw [if_pos (by omega), get!_ex0 s 0 j i (by omega) (by omega), Nat.zero_add]
      · rw [if_neg (by omega)]
        by_cases c2 : i = j
        · rw [if_pos (by omega), show i - (j - 0) = 0 by omega, c2, h4]; rfl
        · rw [if_neg (by omega), get!_ex0 s (j + 1) s.size _ (by omega) (by omega), show j + 1 + (i - (j - 0) - 1) = i by omega]
/-- A stem without '@' and what follows are the parts of what they make. -/
theorem parts_withV (s : ByteArray) (n : Int) (h : has s = false) (h0 : 0 < n) (h1 : n ≤ 999) : has (withV s n) = true ∧ cutA (withV s n) = s ∧ ver (cutB (withV s n)) = n := by
  have hno : ∀ j, j < s.size → (s.get! j).toNat ≠ 64 := by
    rcases at_spec s with ⟨_, _, _, h4⟩ | ⟨j, hj, g1, _⟩
    · exact h4
    · rw [g1] at h; cases h
  obtain ⟨hv, hn64⟩ := ver_itoa n h0 h1
  have e1 : (⟨#[64]⟩ : ByteArray).size = 1 := rfl
  have hz : (withV s n).size = s.size + (1 + (⟨(Lib.itoa n).toArray⟩ : ByteArray).size) := by unfold withV; rw [ByteArray.size_append, ByteArray.size_append, e1]
  have hg : ∀ i, (withV s n).get! i = if i < s.size then s.get! i else if i - s.size < 1 then (⟨#[64]⟩ : ByteArray).get! (i - s.size) else (⟨(Lib.itoa n).toArray⟩ : ByteArray).get! (i - s.size - 1) := fun i => by
    unfold withV; rw [get!_app, get!_app, e1]
  have hat : ((withV s n).get! s.size).toNat = 64 := by rw [hg, if_neg (by omega), if_pos (by omega), Nat.sub_self]; rfl
  rcases at_spec (withV s n) with ⟨g1, g2, g3, g4⟩ | ⟨j, hj, g1, g2, g3, g4, g5⟩
  · exact absurd hat (g4 s.size (by omega))
  · have e : j = s.size := by
      rcases Nat.lt_trichotomy j s.size with c | c | c
      · rw [hg, if_pos c] at g4; exact absurd g4 (hno j c)
      · exact c
      · exact absurd hat (g5 s.size c)
    subst e
    refine ⟨g1, ?_, ?_⟩
    · rw [g2]
      refine ext_get (by rw [ex_size _ _ _ (by omega)]; omega) fun i hi => ?_
      rw [ex_size _ _ _ (by omega)] at hi
      rw [get!_ex0 _ _ _ _ (by omega) hi, Nat.zero_add, hg, if_pos (by omega)]
    · have : cutB (withV s n) = ⟨(Lib.itoa n).toArray⟩ := by
        rw [g3]
        refine ext_get (by rw [ex_size _ _ _ (by omega)]; omega) fun i hi => ?_
        rw [ex_size _ _ _ (by omega)] at hi
        rw [get!_ex0 _ _ _ _ (by omega) hi, hg, if_neg (by omega), if_neg (by omega), show s.size + 1 + i - s.size - 1 = i by omega]
      rw [this, hv]
/-- What a name's parts make is the name. -/
theorem join_split (s : ByteArray) (h : chk s = 0) : joinR (cutA s) (ver (cutB s)) = (s, 0) := by
  have hr := ver_range (cutB s)
  have hA := has_cutA s
  have hok : okN s = true := by
    unfold chk at h
    cases ho : okN s
    · rw [ho] at h; simp at h
    · rfl
  have key : (if ver (cutB s) > 0 then withV (cutA s) (ver (cutB s)) else cutA s) = s := by
    cases hh : has s
    · obtain ⟨e1, e2⟩ := no_has s hh
      rw [e2, if_neg (by omega), e1]
    · have hne : ver (cutB s) ≠ 0 := fun hc => by
        unfold okN at hok
        rw [hh, hc] at hok
        simp at hok
      obtain ⟨c1, c2, c3⟩ := ver_back _ hne
      rw [if_pos c1]
      unfold withV
      rw [← c3]
      exact (parts_back s hh).symm
  unfold joinR
  rw [if_neg (by omega), hA, key]
  simp [h]
/-- What Join makes is split into what it was made of. -/
theorem split_join (s : ByteArray) (n : Int) (h0 : 0 ≤ n) (h1 : n ≤ 999) : (joinR s n).2 ≠ 0 ∧ (joinR s n).1 = ⟨#[]⟩ ∨ (joinR s n).2 = 0 ∧ splitR (joinR s n).1 = (s, n, 0) ∧ has s = false ∧ (joinR s n).1 = (if n > 0 then withV s n else s) ∧ chk (if n > 0 then withV s n else s) = 0 := by
  unfold joinR
  rw [if_neg (by omega)]
  cases hh : has s
  · simp only [Bool.false_eq_true, if_false]
    by_cases hc : chk (if n > 0 then withV s n else s) = 0
    · refine .inr ?_
      rw [if_pos hc]
      refine ⟨rfl, ?_, trivial, rfl, hc⟩
      dsimp only
      unfold splitR
      rw [if_pos hc]
      by_cases hp : n > 0
      · obtain ⟨e1, e2, e3⟩ := parts_withV s n hh (by omega) h1
        rw [if_pos hp, e2, e3]
      · obtain ⟨e1, e2⟩ := no_has s hh
        rw [if_neg hp, e1, e2, show n = 0 by omega]
    · rw [if_neg hc]
      exact .inl ⟨hc, rfl⟩
  · simp
theorem joinR_size (s : ByteArray) (n : Int) (h0 : 0 ≤ n) (h1 : n ≤ 999) : (joinR s n).1.size ≤ s.size + 18 := by
  rcases split_join s n h0 h1 with ⟨_, e⟩ | ⟨_, _, _, e, _⟩
  · rw [e]; exact Nat.zero_le _
  · rw [e]
    split
    · exact withV_size s n h0 h1
    · omega
theorem nil_list : (⟨#[]⟩ : ByteArray).toList = ([] : List UInt8) := ByteArray.toList_eq _
theorem lt_irr (a : ByteArray) : Op.bytesLess a.toList a.toList = false := by
  rw [Go.Proofs.bytesLess_eq, decide_eq_false (List.lt_irrefl _)]
/-- A name's key. -/
theorem less_names (a b : ByteArray) (ha : chk a = 0) (hb : chk b = 0) : (lessR a b = true) ↔ (cutA a).toList < (cutA b).toList ∨ ((cutA a).toList = (cutA b).toList ∧ ver (cutB a) < ver (cutB b)) := by
  unfold lessR
  rw [if_pos ⟨ha, hb⟩, Go.Proofs.bytesLess_eq]
  simp
theorem names_eq (a b : ByteArray) (ha : chk a = 0) (hb : chk b = 0) (h1 : (cutA a).toList = (cutA b).toList) (h2 : ver (cutB a) = ver (cutB b)) : a = b := by
  have e1 := join_split a ha
  have e2 := join_split b hb
  have e3 : cutA a = cutA b := ba_ext (by rw [← ByteArray.toList_eq, ← ByteArray.toList_eq]; exact h1)
  rw [e3, h2, e2] at e1
  exact (Prod.mk.inj e1).1.symm
theorem less_irr (a : ByteArray) : lessR a a = false := by
  unfold lessR
  rw [lt_irr, lt_irr]
  simp
end Go.Nm
/- Names' order, and what is sorted by it. -/
namespace Go.Abs
set_option linter.unusedSimpArgs false
set_option linter.unusedVariables false
open Go.Proofs Go.Nm Go.Wd
set_option linter.unusedVariables false
set_option linter.unusedSectionVars false
set_option maxRecDepth 8000
theorem lessS_names {a b : ByteArray} (ha : chk a = 0) (hb : chk b = 0) : (lessS a b = true) ↔ (Nm.cutA a).toList < (Nm.cutA b).toList ∨ ((Nm.cutA a).toList = (Nm.cutA b).toList ∧ ver (cutB a) < ver (cutB b)) := by
  have ea : splitR a = (Nm.cutA a, ver (cutB a), 0) := by unfold splitR; rw [if_pos ha]
  have eb : splitR b = (Nm.cutA b, ver (cutB b), 0) := by unfold splitR; rw [if_pos hb]
  unfold lessS
  rw [ha, hb, ea, eb]
  simp only [bne_self_eq_false, Bool.or_self, Bool.false_eq_true, if_false, Go.Proofs.bytesLess_eq, Bool.or_eq_true, decide_eq_true_eq, Bool.and_eq_true, beq_iff_eq]
theorem lt_tr {a b c : List UInt8} (h : a < b) (g : b < c) : a < c := List.lt_trans h g
theorem lt_tri (a b : List UInt8) : a < b ∨ a = b ∨ b < a := by
  by_cases h : a < b
  · exact .inl h
  · by_cases g : b < a
    · exact .inr (.inr g)
    · exact .inr (.inl (List.le_antisymm (List.not_lt.1 g) (List.not_lt.1 h)))
theorem lessS_irr {a : ByteArray} (ha : chk a = 0) : lessS a a = false := by
  rw [Bool.eq_false_iff, ne_eq, lessS_names ha ha]
  rintro (h | ⟨_, h⟩)
  · exact List.lt_irrefl _ h
  · omega
theorem lessS_tr {a b c : ByteArray} (ha : chk a = 0) (hb : chk b = 0) (hc : chk c = 0) (h : lessS a b = true) (g : lessS b c = true) : lessS a c = true := by
  rw [lessS_names ha hb] at h
  rw [lessS_names hb hc] at g
  rw [lessS_names ha hc]
  rcases h with h | ⟨h1, h2⟩ <;> rcases g with g | ⟨g1, g2⟩
  · exact .inl (lt_tr h g)
  · exact .inl (g1 ▸ h)
  · exact .inl (h1 ▸ g)
  · exact .inr ⟨h1.trans g1, by omega⟩
theorem lessS_tri {a b : ByteArray} (ha : chk a = 0) (hb : chk b = 0) : lessS a b = true ∨ a = b ∨ lessS b a = true := by
  rw [lessS_names ha hb, lessS_names hb ha]
  rcases lt_tri (Nm.cutA a).toList (Nm.cutA b).toList with h | h | h
  · exact .inl (.inl h)
  · rcases Int.lt_trichotomy (ver (cutB a)) (ver (cutB b)) with g | g | g
    · exact .inl (.inr ⟨h, g⟩)
    · exact .inr (.inl (names_eq a b ha hb h g))
    · exact .inr (.inr (.inr ⟨h.symm, g⟩))
  · exact .inr (.inr (.inl h))
/-- Entries with names that may be, short ones. -/
abbrev VEnt := { e : Ent // chk e.nm = 0 ∧ few e.nm }
instance : Inhabited VEnt := ⟨⟨⟨⟨#[97]⟩, ⟨#[]⟩, 0, 0, 0⟩, by kernel_rfl, by unfold few; decide⟩⟩
theorem vcmp_lt (x y : VEnt) : Go.Proofs.ltOf (fun x y : VEnt => cmpE x.1 y.1) x y = lessS x.1.nm y.1.nm := by
  have key : ∀ a b : Bool, decide ((if a = true then (-1 : Int) else if b = true then 1 else 0) < 0) = a := by decide
  exact key _ _
theorem vswo : Go.Sort.SWO (Go.Proofs.ltOf fun x y : VEnt => cmpE x.1 y.1) where
  irrefl := fun x => by rw [vcmp_lt]; exact lessS_irr x.2.1
  trans := fun x y z h g => by rw [vcmp_lt] at *; exact lessS_tr x.2.1 y.2.1 z.2.1 h g
  ntrans := fun x y z h g => by
    rw [vcmp_lt] at *
    rw [Bool.eq_false_iff] at *
    intro k
    rcases lessS_tri x.2.1 y.2.1 with a | a | a
    · exact h a
    · rw [a] at k; exact g k
    · exact g (lessS_tr y.2.1 x.2.1 z.2.1 a k)
/-- Sorted, each once. -/
def Ordered : List Ent → Prop
  | [] => True
  | x :: l => (∀ y ∈ l, lessS x.nm y.nm = true) ∧ Ordered l
theorem ordered_unique : ∀ {l m : List Ent}, (∀ e ∈ l, chk e.nm = 0) → Ordered l → Ordered m → l.Perm m → l = m
  | [], m, _, _, _, h => (List.nil_perm.1 h).symm
  | x :: l, [], _, _, _, h => by have := h.length_eq; simp at this
  | x :: l, y :: m, hc, hl, hm, h => by
    have hcm : ∀ e ∈ y :: m, chk e.nm = 0 := fun e he => hc e (h.mem_iff.2 he)
    have hxy : x = y := by
      have h1 : x ∈ y :: m := h.mem_iff.1 (by simp)
      have h2 : y ∈ x :: l := h.mem_iff.2 (by simp)
      rcases List.mem_cons.1 h1 with e | h1
      · exact e
      · rcases List.mem_cons.1 h2 with e | h2
        · exact e.symm
        · exfalso
          have a := hm.1 x h1
          have b := hl.1 y h2
          have cx := hc x (by simp)
          have cy := hcm y (by simp)
          have := lessS_tr cx cy cx b a
          rw [lessS_irr cx] at this; cases this
    subst hxy
    rw [ordered_unique (fun e he => hc e (by simp [he])) hl.2 hm.2 (List.perm_cons x |>.1 h)]
theorem ordered_of {l : List Ent} (hc : ∀ e ∈ l, chk e.nm = 0) (hn : (l.map (·.nm)).Nodup) (hs : ∀ (i j : Nat) (x y : Ent), i < j → l[i]? = some x → l[j]? = some y → lessS y.nm x.nm = false) : Ordered l := by
  induction l with
  | nil => trivial
  | cons x l ih =>
    simp only [List.map_cons, List.nodup_cons] at hn
    refine ⟨fun y hy => ?_, ih (fun e he => hc e (by simp [he])) hn.2 fun i j a b hij ha hb => hs (i + 1) (j + 1) a b (by omega) (by simpa using ha) (by simpa using hb)⟩
    obtain ⟨j, hj⟩ := List.mem_iff_getElem?.1 hy
    have h1 := hs 0 (j + 1) x y (by omega) rfl (by simpa using hj)
    rcases lessS_tri (hc x (by simp)) (hc y (by simp [hy])) with h | h | h
    · exact h
    · exact absurd (List.mem_map.2 ⟨y, hy, h.symm⟩) hn.1
    · rw [h1] at h; cases h
theorem putL_ordered {e : Ent} (he : chk e.nm = 0) : ∀ {l : List Ent}, (∀ x ∈ l, chk x.nm = 0) → (∀ x ∈ l, x.nm ≠ e.nm) → Ordered l → Ordered (putL e l)
  | [], _, _, _ => ⟨fun y hy => (List.not_mem_nil hy).elim, trivial⟩
  | x :: l, hc, hne, ho => by
    unfold putL
    cases q : lessS x.nm e.nm with
    | true =>
      rw [if_pos rfl]
      refine ⟨fun y hy => ?_, putL_ordered he (fun y hy => hc y (by simp [hy])) (fun y hy => hne y (by simp [hy])) ho.2⟩
      rcases putL_mem.1 hy with rfl | hy
      · exact q
      · exact ho.1 y hy
    | false =>
      rw [if_neg (by decide)]
      have hx : lessS e.nm x.nm = true := by
        rcases lessS_tri (hc x (by simp)) he with h | h | h
        · rw [q] at h; cases h
        · exact absurd h (hne x (by simp))
        · exact h
      refine ⟨fun y hy => ?_, ho⟩
      rcases List.mem_cons.1 hy with rfl | hy
      · exact hx
      · exact lessS_tr he (hc x (by simp)) (hc y (by simp [hy])) hx (ho.1 y hy)
theorem ordered_filter {p : Ent → Bool} : ∀ {l : List Ent}, Ordered l → Ordered (l.filter p)
  | [], _ => trivial
  | x :: l, h => by
    by_cases q : p x = true
    · rw [List.filter_cons_of_pos q]; exact ⟨fun y hy => h.1 y (List.mem_filter.1 hy).1, ordered_filter h.2⟩
    · rw [List.filter_cons_of_neg q]; exact ordered_filter h.2
theorem ordered_map {f : Ent → Ent} (hf : ∀ e, (f e).nm = e.nm) : ∀ {l : List Ent}, Ordered l → Ordered (l.map f)
  | [], _ => trivial
  | x :: l, h => ⟨fun y hy => by obtain ⟨z, hz, rfl⟩ := List.mem_map.1 hy; rw [hf, hf]; exact h.1 z hz, ordered_map hf h.2⟩
end Go.Abs
/- What modules export: all entries, in their order. -/
namespace Go.Abs
set_option linter.unusedSimpArgs false
set_option linter.unusedVariables false
open Go.Proofs Go.Nm Go.Wd
set_option linter.unusedVariables false
set_option linter.unusedSectionVars false
set_option maxRecDepth 8000
variable {H : Heap}
def Ent.vals (e : Ent) : List Value := [.string e.nm, .string e.md, .int .i64 e.gt, .int .i64 e.ix, .int .i64 e.rf]
theorem enc_vals (e : Ent) : e.enc = e.vals.map .s := rfl
theorem flat_vals : ∀ l : List VEnt, ((flatV (fun x : VEnt => x.1.vals) l).map TV.s) = ((l.map (·.1)).map Ent.enc).flatten
  | [] => rfl
  | x :: l => by
    have := flat_vals l
    unfold flatV at this ⊢
    rw [List.flatMap_cons, List.map_append, this]; rfl
theorem vents {l : List Ent} (h : ∀ e ∈ l, chk e.nm = 0 ∧ few e.nm) : ∃ v : List VEnt, v.map (·.1) = l := by
  induction l with
  | nil => exact ⟨[], rfl⟩
  | cons x l ih =>
    obtain ⟨v, hv⟩ := ih fun e he => h e (by simp [he])
    exact ⟨⟨x, h x (by simp)⟩ :: v, by simp [hv]⟩
theorem sortE_c {G : Heap} (g : GH G) (hs : Sub G H) {b : Nat} {l : List Ent} (hne : l ≠ []) (hv : ∀ e ∈ l, chk e.nm = 0 ∧ few e.nm) (hn : (l.map (·.nm)).Nodup) (hb : H b = some (.cells (l.map Ent.enc).flatten)) (hsz : l.length < 4611686018427387904) :
    AC Tryd.prog 28 [.rs b 0 l.length 5, .s (.func (.func 29) #[] #[])] H (fun r H' => ∃ l' : List Ent, l'.Perm l ∧ Ordered l' ∧ r = .any ∧ H' = upd H b (.cells (l'.map Ent.enc).flatten)) := by
  obtain ⟨v, rfl⟩ := vents hv
  have hne' : v ≠ [] := fun e => hne (by rw [e]; rfl)
  rw [← flat_vals] at hb
  have h := sort_c (P := Tryd.prog) Tryd.sortEnt (k := 5) (by decide) isAggE sizeE (fun x : VEnt => x.1.vals) (fun _ => rfl) (fun x u hu => by
      simp only [Ent.vals, List.mem_cons, List.not_mem_nil, or_false] at hu
      rcases hu with rfl | rfl | rfl | rfl | rfl <;> rfl) (fun x y : VEnt => cmpE x.1 y.1) vswo (g := 29) (hgf := Tryd.func29) rfl rfl (hF := Tryd.func28) rfl rfl (G := G) (H := H) (fun b r hr => by
        obtain ⟨o, ho⟩ := g.exact b (by rw [hr]; simp)
        rw [hr] at ho; exact ⟨o, Option.some.inj ho⟩) hs (fun x y => cmpE_c g (Sub.refl G) x.2.2.fits y.2.2.fits) hne' hb (by simpa using hsz)
  have h' : AC Tryd.prog 28 [.rs b 0 v.length 5, .s (.func (.func 29) #[] #[])] H _ := h
  rw [List.length_map]
  refine AC.mono h' fun r H' hq => ?_
  obtain ⟨l', hp, hsrt, hr, hH⟩ := hq
  have hp' : (l'.map (·.1)).Perm (v.map (·.1)) := hp.map _
  refine ⟨l'.map (·.1), hp', ordered_of (fun e he => (hv e (hp'.mem_iff.1 he)).1) (((hp'.map _).nodup_iff).2 hn) (fun i j x y hij hx hy => ?_), hr, by rw [hH, flat_vals]⟩
  rw [List.getElem?_map] at hx hy
  cases hx' : l'[i]? with
  | none => rw [hx'] at hx; cases hx
  | some x' =>
    cases hy' : l'[j]? with
    | none => rw [hy'] at hy; cases hy
    | some y' =>
      rw [hx'] at hx; rw [hy'] at hy
      simp only [Option.map_some, Option.some.injEq] at hx hy
      subst hx hy
      have := hsrt i j x' y' hij hx' hy'
      rw [vcmp_lt] at this; exact this
theorem sortN_c (f : Value) (H : Heap) : AC Tryd.prog 28 [.nils, .s f] H (fun r H' => r = .any ∧ H' = H) := by
  refine AC.intro Tryd.func28 rfl rfl fun argv w ha hh => ?_
  obtain ⟨y0, y1, rfl, r0, r1⟩ := repL_two ha
  simp only [Rep] at r0 r1
  subst r1
  obtain ⟨a, rfl⟩ := r0
  have h := AnyF.slices_SortFunc_none Tryd.sortEnt a 0 y1 w
  exact Calls.mono h fun e w' ⟨he, hw⟩ => ⟨.tuple #[], he, .any, H, ⟨rfl, rfl⟩, by simp only [Rep], by rw [hw]; exact hh, by rw [hw]; exact .refl _ _⟩
end Go.Abs
/- What modules export, by definition: Refs, Remove. -/
namespace Go.Abs
set_option linter.unusedSimpArgs false
set_option linter.unusedVariables false
set_option maxHeartbeats 4000000
open Go.Proofs Go.Nm Go.Wd
set_option linter.unusedVariables false
set_option linter.unusedSectionVars false
set_option maxRecDepth 8000
variable {H : Heap}
theorem sumR_snoc {md : ByteArray} {l : List Ent} {i : Nat} {x : Ent} (h : l[i]? = some x) : sumR md (l.take (i + 1)) = sumR md (l.take i) + refE md x := by
  rw [List.take_add_one, h, Option.toList_some, sumR_app]; simp [sumR]
theorem rrefs_c (R : RSym) (hR : R.ok) (hf : LFit R.l) (md : ByteArray) (H : Heap) : AC Tryd.prog 34 [R.tv, .s (.string md)] H (fun r H' => r = .s (.int .i64 (sumR md R.l)) ∧ H' = H) := by
  refine AC.body Tryd.func34 rfl rfl (n := 31) (res := [.tmp 4]) rfl rfl (by simp) ?_
  simp only [ent]
  simp only [RSym.tv_def]
  have hl := hR.2
  replace hf := later hf
  clear hR
  (repeat' (first | refine wk ?_ | refine wk2 ?_ ?_ | with_reducible refine wkF fun _ _ _ => ?_ | with_reducible intro _ | exact ag | fail))
  rename_i v hv hvn
  refine ARun.rounds (fun i : Nat => ⟨[(1, .s (.string md)), (2, .s (.pointer (some ⟨v, 0, none⟩))), (5, .s (.int .i64 (sumR md (R.l.take i)))), (6, .s (.int .i64 i))], upd H v (.cells [.vs 1 (R.mods.map s1), .vs 5 (R.l.map Ent.enc)])⟩) (fun i => R.l.length - i) (fun i => i ≤ R.l.length) ?_ 0 (by omega) ?_
  · rintro i hi next
    by_cases hlt : i < R.l.length
    · have h1 : (i : Int) < R.l.length := by omega
      have h2 : (0 : Int) ≤ i := by omega
      obtain ⟨x, hx⟩ := at_ hlt
      have hx1 := vget Ent.enc hx
      rw [Ent.enc_def] at hx1
      have hw := w64s (i := i) (by omega)
      have nx := next.go (i + 1) (by omega) (by omega)
      rw [sumR_snoc hx] at nx
      have hs := sumR_le (md := md) (l := R.l.take i) fun e he => hf.go.rf e (List.mem_of_mem_take he)
      have hxr := hf.go.rf x (List.mem_of_getElem? hx)
      have hln := hf.go.ll
      have htl : (R.l.take i).length ≤ R.l.length := by rw [List.length_take]; omega
      have hw2 := w64 (x := sumR md (R.l.take i) + x.rf) (by omega) (by omega)
      unfold refE at nx
      generalize sumR md (R.l.take i) = acc at *
      replace nx := later nx
      clear next hx hs hxr hln htl
      cases hb : (x.md.toList == md.toList) with
      | true =>
        have hmd : x.md = md := by rw [str_eq] at hb; simpa using hb
        rw [if_pos hmd] at nx
        clear hmd
        (repeat' (first | refine wk ?_ | refine wk2 ?_ ?_ | with_reducible refine wkF fun _ _ _ => ?_ | with_reducible intro _ | exact ag | fail))
        exact ARun.weaken nx.go (leK (Sub.refl _))
      | false =>
        have hmd : ¬ x.md = md := by rw [str_eq] at hb; simpa using hb
        rw [if_neg hmd, Int.add_zero] at nx
        clear hmd hw2
        (repeat' (first | refine wk ?_ | refine wk2 ?_ ?_ | with_reducible refine wkF fun _ _ _ => ?_ | with_reducible intro _ | exact ag | fail))
        exact ARun.weaken nx.go (leK (Sub.refl _))
    · have h1 : decide ((i : Int) < R.l.length) = false := by simp; omega
      obtain rfl : i = R.l.length := by omega
      rw [List.take_length]
      clear next
      generalize sumR md R.l = acc
      (repeat' (first | refine wk ?_ | refine wk2 ?_ ?_ | with_reducible refine wkF fun _ _ _ => ?_ | with_reducible intro _ | exact ag | fail))
      exact fin0
  · have e0 : sumR md (R.l.take 0) = 0 := rfl
    rw [e0]
    exact leK (Sub.refl _)
theorem own_store {K : Heap} {x b : Nat} {C C' : Root} {L : List (List TV)} (hb : L ≠ [] → b ≠ x) : upd (ownH (upd K x C) b L) x C' = ownH (upd K x C') b L := by
  by_cases h : L = []
  · rw [h, ownH_nil, ownH_nil, upd_upd]
  · have n := hb h
    rw [ownH_ne' h, ownH_ne' h]
    funext p
    simp only [upd_eq]
    by_cases q : p = x
    · subst q; rw [if_pos rfl, if_neg n.symm, if_pos rfl]
    · rw [if_neg q, if_neg q, if_neg q]
def RSym.remE (R : RSym) (md : ByteArray) : Int := if R.has md then if decide (0 < sumR md R.l) then 26 else 0 else 8
def RSym.rem (R : RSym) (md : ByteArray) : RSym := if R.remE md = 0 then ⟨R.mods.filter fun s => !(s.toList == md.toList), R.l.filter fun e => !mdB md e⟩ else R
theorem RSym.rem_no {R : RSym} {md : ByteArray} (h : R.remE md ≠ 0) : R.rem md = R := if_neg h
theorem filter_snoc {α : Type} {p : α → Bool} {l : List α} {i : Nat} {x : α} (h : l[i]? = some x) : (l.take (i + 1)).filter p = if p x then (l.take i).filter p ++ [x] else (l.take i).filter p := by
  rw [List.take_add_one, h, Option.toList_some, List.filter_append]
  by_cases q : p x = true
  · rw [if_pos q, List.filter_cons_of_pos q, List.filter_nil]
  · rw [if_neg q, List.filter_cons_of_neg q, List.filter_nil, List.append_nil]
set_option maxHeartbeats 2000000 in
theorem rremove_c (R : RSym) (hR : R.fit) (hf : LFit R.l) (md : ByteArray) (H : Heap) : AC Tryd.prog 31 [R.tv, .s (.string md)] H (fun r H' => r = .tup [(R.rem md).tv, .s (.int .i64 (R.remE md))] ∧ H' = H) := by
  refine AC.body Tryd.func31 rfl rfl (n := 71) (res := [.cell 4 40, .tmp 5]) rfl rfl (by simp) ?_
  simp only [ent]
  have T := fun H => rhas_c R hR.ok md H
  have F := fun H => rrefs_c R hR.ok hf md H
  have hE : R.remE md = if R.has md then if decide (0 < sumR md R.l) then 26 else 0 else 8 := rfl
  have eh : R.has md = decide (0 ≤ fi (fun s : ByteArray => s.toList == md.toList) R.mods) := rfl
  rw [← eh] at T
  simp only [RSym.tv_def] at T F ⊢
  clear eh hf
  replace hR := later hR
  generalize sumR md R.l = n0 at *
  cases q1 : R.has md with
  | false =>
    rw [q1, if_neg (by decide)] at hE
    rw [RSym.rem_no (R := R) (md := md) (by rw [hE]; decide), hE]
    rw [q1] at T
    clear hE q1 F
    (repeat' (first | refine wk ?_ | refine wk2 ?_ ?_ | with_reducible refine wkF fun _ _ _ => ?_ | with_reducible intro _ | refine Calling.eq (T _) ?_ | exact ag | fail))
    exact fin0
  | true =>
    rw [q1, if_pos rfl] at hE
    rw [q1] at T
    cases q2 : decide (0 < n0) with
    | true =>
      rw [q2, if_pos rfl] at hE
      rw [RSym.rem_no (R := R) (md := md) (by rw [hE]; decide), hE]
      clear hE q1
      (repeat' (first | refine wk ?_ | refine wk2 ?_ ?_ | with_reducible refine wkF fun _ _ _ => ?_ | with_reducible intro _ | refine Calling.eq (T _) ?_ | refine Calling.eq (F _) ?_ | exact ag | fail))
      exact fin0
    | false =>
      rw [q2, if_neg (by decide)] at hE
      have hr : R.rem md = ⟨R.mods.filter fun s => !(s.toList == md.toList), R.l.filter fun e => !mdB md e⟩ := if_pos hE
      rw [hE, hr]
      clear hE q1 hr
      (repeat' (first | refine wk ?_ | refine wk2 ?_ ?_ | with_reducible refine wkF fun _ _ _ => ?_ | with_reducible intro _ | refine Calling.eq (T _) ?_ | refine Calling.eq (F _) ?_ | exact ag | fail))
      rename_i v hv hvn w hw hwn x hx hxn
      have kv : upd (upd H v (.cells [.vs 1 (R.mods.map s1), .vs 5 (R.l.map Ent.enc)])) w (.cells [.nils, .nils]) v = some (.cells [.vs 1 (R.mods.map s1), .vs 5 (R.l.map Ent.enc)]) := by rw [upd_eq, if_neg (by rw [(hwn v (by rw [upd_self]; rfl)).1]; exact id), upd_self]
      have kw : upd (upd H v (.cells [.vs 1 (R.mods.map s1), .vs 5 (R.l.map Ent.enc)])) w (.cells [.nils, .nils]) w = some (.cells [.nils, .nils]) := upd_self _ _ _
      have hsub : Sub H (upd (upd H v (.cells [.vs 1 (R.mods.map s1), .vs 5 (R.l.map Ent.enc)])) w (.cells [.nils, .nils])) := sb
      have hw0 := nu1 hw
      generalize upd (upd H v (.cells [.vs 1 (R.mods.map s1), .vs 5 (R.l.map Ent.enc)])) w (.cells [.nils, .nils]) = K at *
      clear hv hvn hw hwn
      have hxv : (v = x) = False ∧ (x = v) = False := hxn v (by rw [kv]; rfl)
      have hxw : (w = x) = False ∧ (x = w) = False := hxn w (by rw [kw]; rfl)
      clear hxn
      replace hsub := later hsub
      have hml := hR.go.ml
      have hll := hR.go.ll
      clear T F
      refine ARun.rounds (fun st : Nat × Nat => ⟨[(1, .s (.string md)), (2, .s (.pointer (some ⟨v, 0, none⟩))), (4, .s (.pointer (some ⟨w, 0, none⟩))), (5, .s (.int .i64 0)), (6, .s (.pointer (some ⟨x, 0, none⟩))), (7, .s (.int .i64 (st.1 : Nat)))],
          ownH (upd K x (.cells [ownT st.2 1 (((R.mods.take st.1).filter fun s => !(s.toList == md.toList)).map s1), .nils])) st.2 (((R.mods.take st.1).filter fun s => !(s.toList == md.toList)).map s1)⟩) (fun st => R.mods.length - st.1)
        (fun st => st.1 ≤ R.mods.length ∧ ((((R.mods.take st.1).filter fun s => !(s.toList == md.toList)).map s1) ≠ [] → K st.2 = none ∧ st.2 ≠ x)) ?_ (0, 0) ⟨by simp, fun h => absurd rfl h⟩ ?_
      · rintro ⟨i, b⟩ ⟨hi, hb⟩ next
        simp only [] at hi hb ⊢
        by_cases hlt : i < R.mods.length
        · have e1 : (i : Int) < R.mods.length := by omega
          have e2 : (0 : Int) ≤ i := by omega
          obtain ⟨y, hy⟩ := at_ hlt
          have hy1 := vget s1 hy
          rw [s1_def] at hy1
          have hw6 := w64s (i := i) (by omega)
          have nx := fun b' hb' => next.go (i + 1, b') ⟨by simp only []; omega, hb'⟩ (by simp only []; omega)
          simp only [filter_snoc hy] at nx
          have hlen : ((R.mods.take i).filter fun s => !(s.toList == md.toList)).length ≤ 10000 := Nat.le_trans (List.length_filter_le _ _) (by simp; omega)
          generalize ((R.mods.take i).filter fun s => !(s.toList == md.toList)) = L at *
          clear next hy
          have f1 := ownH_keep (c := x) (r := .cells [ownT b 1 (L.map s1), .nils]) (K := upd K x (.cells [ownT b 1 (L.map s1), .nils])) (b := b) (L := L.map s1) (fun h => by rw [upd_eq, if_neg (hb h).2]; exact (hb h).1) (upd_self _ _ _)
          have f2 := ownH_keep (c := v) (r := .cells [.vs 1 (R.mods.map s1), .vs 5 (R.l.map Ent.enc)]) (K := upd K x (.cells [ownT b 1 (L.map s1), .nils])) (b := b) (L := L.map s1) (fun h => by rw [upd_eq, if_neg (hb h).2]; exact (hb h).1) (by rw [upd_eq, if_neg (by rw [hxv.1]; exact id)]; exact kv)
          cases hq : (y.toList == md.toList) with
          | true =>
            simp only [hq, Bool.not_true, Bool.false_eq_true, if_false] at nx
            have nx := nx b hb
            replace nx := later nx
            replace hb := later hb
            clear kv kw
            (repeat' (first | refine wk ?_ | refine wk2 ?_ ?_ | with_reducible refine wkF fun _ _ _ => ?_ | with_reducible intro _ | exact ag | fail))
            exact ARun.weaken nx.go (leK (Sub.refl _))
          | false =>
            simp only [hq, Bool.not_false, if_true, List.map_append, List.map_cons, List.map_nil] at nx
            replace nx := later nx
            have hb2 : L.map s1 ≠ [] → upd K x (.cells [ownT b 1 (L.map s1), .nils]) b = none := fun h => by rw [upd_eq, if_neg (hb h).2]; exact (hb h).1
            replace hb2 := later hb2
            replace hb := later hb
            clear kw
            (repeat' (first | refine wk ?_ | refine wk2 ?_ ?_ | with_reducible refine wkF fun _ _ _ => ?_ | with_reducible intro _ | exact ag | fail))
            refine ARun.drawT mixed [0, 1, 2, 3, 4, 5, 6] (.alt 7 [0, 1, 2, 3, 4, 5] [] (.alt 8 [0, 2, 3, 4, 5, 6] [9] (.alt 10 [] [] .leaf .nil) .nil) .nil) (by kernel_rfl) (by rfl) ?_
            (repeat' (first | refine wk ?_ | refine wk2 ?_ ?_ | with_reducible refine wkF fun _ _ _ => ?_ | with_reducible intro _ | refine Doing.fresh (oc_build1 ap22 (fun _ h => by cases h; rfl) rfl rfl (by decide) (by decide)) fun _ _ _ => ?_ | refine Doing.fresh (oc_append1 (e := s1 y) ap22 us22 (each_s1 _) rfl rfl hb2.go (by assumption) (by simp; omega) (by simp; omega)) fun _ _ _ => ?_ | exact ag | fail))
            rename_i b' hb' hbn'
            have hbx : (b' = x) = False := (hbn' x (by rw [upd_self]; rfl)).2
            rw [own_store (fun _ q => by rw [q] at hbx; simp at hbx)]
            have hb3 : K b' = none := by rw [upd_eq, if_neg (by rw [hbx]; exact id)] at hb'; exact hb'
            exact ARun.weaken (nx.go b' fun _ => ⟨hb3, fun q => by rw [q] at hbx; simp at hbx⟩) (leK (Sub.refl _))
        · have e1 : decide ((i : Int) < R.mods.length) = false := by simp; omega
          obtain rfl : i = R.mods.length := by omega
          rw [List.take_length] at hb ⊢
          clear next
          generalize hM : (R.mods.filter fun s => !(s.toList == md.toList)) = M at *
          have f1 := ownH_keep (c := x) (r := .cells [ownT b 1 (M.map s1), .nils]) (K := upd K x (.cells [ownT b 1 (M.map s1), .nils])) (b := b) (L := M.map s1) (fun h => by rw [upd_eq, if_neg (hb h).2]; exact (hb h).1) (upd_self _ _ _)
          have f2 := ownH_keep (c := v) (r := .cells [.vs 1 (R.mods.map s1), .vs 5 (R.l.map Ent.enc)]) (K := upd K x (.cells [ownT b 1 (M.map s1), .nils])) (b := b) (L := M.map s1) (fun h => by rw [upd_eq, if_neg (hb h).2]; exact (hb h).1) (by rw [upd_eq, if_neg (by rw [hxv.1]; exact id)]; exact kv)
          have swp : ownH (upd K x (.cells [ownT b 1 (M.map s1), .nils])) b (M.map s1) = upd (ownH K b (M.map s1)) x (.cells [ownT b 1 (M.map s1), .nils]) := by
            by_cases h : M.map s1 = []
            · rw [h, ownH_nil, ownH_nil]
            · exact own_swap (by rw [upd_eq, if_neg (hb h).2]; exact (hb h).1)
          have f3 := ownH_keep (c := v) (K := K) (b := b) (L := M.map s1) (fun h => (hb h).1) kv
          have f4 := ownH_keep (c := w) (K := K) (b := b) (L := M.map s1) (fun h => (hb h).1) kw
          have hs0 : Sub H (ownH K b (M.map s1)) := sub_ownK hsub.go (fun h => (hb h).1)
          have hK0 : M.map s1 ≠ [] → ownH K b (M.map s1) b = some (.cells (M.map s1).flatten) := fun h => ownH_at h
          have hHb : M.map s1 ≠ [] → H b = none := fun h => hsub.go.gone (hb h).1
          have hKx : ownH K b (M.map s1) x = none := by
            by_cases h : M.map s1 = []
            · rw [h, ownH_nil]; exact hx
            · rw [ownH_ne (eq_false fun q => (hb h).2 q.symm)]; exact hx
          have eM : Each 1 (M.map s1) := each_s1 _
          have hbw : M.map s1 ≠ [] → b ≠ w := fun h q => by have := (hb h).1; rw [q, kw] at this; cases this
          replace hbw := later hbw
          replace swp := later swp
          replace hb := later hb
          replace hs0 := later hs0
          replace hK0 := later hK0
          replace hHb := later hHb
          replace eM := later eM
          clear kw hM
          (repeat' (first | refine wk ?_ | refine wk2 ?_ ?_ | with_reducible refine wkF fun _ _ _ => ?_ | with_reducible intro _ | exact ag | fail))
          rw [swp.go]
          clear swp f1 f2 hb kv hsub hx
          generalize ownH K b (M.map s1) = K2 at *
          have cv1 : ∀ A, (∀ p r, p ≠ w → K2 p = some r → A p = some r) → Sub H A → Conv A H (ownT b 1 (M.map s1)) (.vs 1 (M.map s1)) := fun A hA hs => by
            by_cases h : M.map s1 = []
            · rw [h]; exact conv_nils
            · exact conv_own hs (.inr (hA _ _ (hbw.go h) (hK0.go h))) (hHb.go h) eM.go
          replace cv1 := later cv1
          clear hK0 hHb eM hbw
          have oT : oneT (ownT b 1 (M.map s1)) = true := one_own _ _ _
          have cT : cellsT (ownT b 1 (M.map s1)) = some [ownT b 1 (M.map s1)] := cells_own _ _ _
          generalize ownT b 1 (M.map s1) = T1 at *
          refine ARun.rounds (fun st : Nat × Nat => ⟨[(1, .s (.string md)), (2, .s (.pointer (some ⟨v, 0, none⟩))), (4, .s (.pointer (some ⟨w, 0, none⟩))), (5, .s (.int .i64 0)), (6, .s (.pointer (some ⟨x, 0, none⟩))), (8, .s (.int .i64 (st.1 : Nat)))],
              ownH (upd K2 x (.cells [T1, ownT st.2 5 (((R.l.take st.1).filter fun e => !mdB md e).map Ent.enc)])) st.2 (((R.l.take st.1).filter fun e => !mdB md e).map Ent.enc)⟩) (fun st => R.l.length - st.1)
            (fun st => st.1 ≤ R.l.length ∧ ((((R.l.take st.1).filter fun e => !mdB md e).map Ent.enc) ≠ [] → K2 st.2 = none ∧ st.2 ≠ x)) ?_ (0, 0) ⟨by simp, fun h => absurd rfl h⟩ ?_
          · rintro ⟨i, c⟩ ⟨hi, hc⟩ next
            simp only [] at hi hc ⊢
            by_cases hlt : i < R.l.length
            · have e1 : (i : Int) < R.l.length := by omega
              have e2 : (0 : Int) ≤ i := by omega
              obtain ⟨y, hy⟩ := at_ hlt
              have hy1 := vget Ent.enc hy
              rw [Ent.enc_def] at hy1
              have hw6 := w64s (i := i) (by omega)
              have nx := fun b' hb' => next.go (i + 1, b') ⟨by simp only []; omega, hb'⟩ (by simp only []; omega)
              simp only [filter_snoc hy] at nx
              have hlen : ((R.l.take i).filter fun e => !mdB md e).length ≤ 10000 := Nat.le_trans (List.length_filter_le _ _) (by rw [List.length_take]; omega)
              have hmb : mdB md y = (y.md.toList == md.toList) := rfl
              generalize ((R.l.take i).filter fun e => !mdB md e) = L at *
              clear next hy
              have f1 := ownH_keep (c := x) (r := .cells [T1, ownT c 5 (L.map Ent.enc)]) (K := upd K2 x (.cells [T1, ownT c 5 (L.map Ent.enc)])) (b := c) (L := L.map Ent.enc) (fun h => by rw [upd_eq, if_neg (hc h).2]; exact (hc h).1) (upd_self _ _ _)
              have f2 := ownH_keep (c := v) (r := .cells [.vs 1 (R.mods.map s1), .vs 5 (R.l.map Ent.enc)]) (K := upd K2 x (.cells [T1, ownT c 5 (L.map Ent.enc)])) (b := c) (L := L.map Ent.enc) (fun h => by rw [upd_eq, if_neg (hc h).2]; exact (hc h).1) (by rw [upd_eq, if_neg (by rw [hxv.1]; exact id)]; exact f3)
              cases hq : (y.md.toList == md.toList) with
              | true =>
                rw [hq] at hmb
                simp only [hmb, Bool.not_true, Bool.false_eq_true, if_false] at nx
                have nx := nx c hc
                replace nx := later nx
                replace hc := later hc
                clear f3 f4 hmb
                (repeat' (first | refine wk ?_ | refine wk2 ?_ ?_ | with_reducible refine wkF fun _ _ _ => ?_ | with_reducible intro _ | exact ag | fail))
                exact ARun.weaken nx.go (leK (Sub.refl _))
              | false =>
                rw [hq] at hmb
                simp only [hmb, Bool.not_false, if_true, List.map_append, List.map_cons, List.map_nil] at nx
                replace nx := later nx
                have hb2 : L.map Ent.enc ≠ [] → upd K2 x (.cells [T1, ownT c 5 (L.map Ent.enc)]) c = none := fun h => by rw [upd_eq, if_neg (hc h).2]; exact (hc h).1
                replace hb2 := later hb2
                replace hc := later hc
                have ey : ([.s (.string y.nm), .s (.string y.md), .s (.int .i64 y.gt), .s (.int .i64 y.ix), .s (.int .i64 y.rf)] : List TV) = y.enc := rfl
                replace ey := later ey
                clear f4 hmb
                (repeat' (first | refine wk ?_ | refine wk2 ?_ ?_ | with_reducible refine wkF fun _ _ _ => ?_ | with_reducible intro _ | exact ag | fail))
                refine ARun.drawT mixed [0, 1, 2, 3, 4, 5, 6] (.alt 7 [0, 1, 2, 3, 4, 5] [] (.alt 8 [0, 2, 3, 4, 5, 6] [9] (.alt 10 [] [] .leaf .nil) .nil) .nil) (by kernel_rfl) (by rfl) ?_
                (repeat' (first | refine wk ?_ | refine wk2 ?_ ?_ | with_reducible refine wkF fun _ _ _ => ?_ | with_reducible intro _ | refine Doing.fresh (oc_build1 ap38 (fun _ h => by cases h; rfl) rfl rfl (by decide) (by decide)) fun _ _ _ => ?_ | exact ag | fail))
                rw [ey.go]
                clear ey
                (repeat' (first | refine wk ?_ | refine wk2 ?_ ?_ | with_reducible refine wkF fun _ _ _ => ?_ | with_reducible intro _ | refine Doing.fresh (oc_append1 (e := y.enc) ap38 us38 (each_ent _) rfl rfl hb2.go (by assumption) (by simp; omega) (by simp; omega)) fun _ _ _ => ?_ | exact ag | fail))
                rename_i b' hb' hbn'
                have hbx : (b' = x) = False := (hbn' x (by rw [upd_self]; rfl)).2
                rw [own_store (fun _ q => by rw [q] at hbx; simp at hbx)]
                have hb3 : K2 b' = none := by rw [upd_eq, if_neg (by rw [hbx]; exact id)] at hb'; exact hb'
                exact ARun.weaken (nx.go b' fun _ => ⟨hb3, fun q => by rw [q] at hbx; simp at hbx⟩) (leK (Sub.refl _))
            · have e1 : decide ((i : Int) < R.l.length) = false := by simp; omega
              obtain rfl : i = R.l.length := by omega
              rw [List.take_length] at hc ⊢
              clear next
              generalize (R.l.filter fun e => !mdB md e) = N at *
              have hcn : N.map Ent.enc ≠ [] → upd K2 x (.cells [T1, ownT c 5 (N.map Ent.enc)]) c = none := fun h => by rw [upd_eq, if_neg (hc h).2]; exact (hc h).1
              have f1 := ownH_keep (c := x) (r := .cells [T1, ownT c 5 (N.map Ent.enc)]) (K := upd K2 x (.cells [T1, ownT c 5 (N.map Ent.enc)])) (b := c) (L := N.map Ent.enc) hcn (upd_self _ _ _)
              have f2 := ownH_keep (c := v) (r := .cells [.vs 1 (R.mods.map s1), .vs 5 (R.l.map Ent.enc)]) (K := upd K2 x (.cells [T1, ownT c 5 (N.map Ent.enc)])) (b := c) (L := N.map Ent.enc) hcn (by rw [upd_eq, if_neg (by rw [hxv.1]; exact id)]; exact f3)
              have f5 := ownH_keep (c := w) (r := .cells [.nils, .nils]) (K := upd K2 x (.cells [T1, ownT c 5 (N.map Ent.enc)])) (b := c) (L := N.map Ent.enc) hcn (by rw [upd_eq, if_neg (by rw [hxw.1]; exact id)]; exact f4)
              have hk1 : Sub K2 (ownH (upd K2 x (.cells [T1, ownT c 5 (N.map Ent.enc)])) c (N.map Ent.enc)) := sub_ownK (Sub.upd (Sub.refl K2) hKx) hcn
              have cv2 : ∀ A, (∀ p r, p ≠ w → ownH (upd K2 x (.cells [T1, ownT c 5 (N.map Ent.enc)])) c (N.map Ent.enc) p = some r → A p = some r) → Sub H A → Conv A H (ownT c 5 (N.map Ent.enc)) (.vs 5 (N.map Ent.enc)) := fun A hA hs => by
                by_cases h : N.map Ent.enc = []
                · rw [h]; exact conv_nils
                · refine conv_own hs (.inr (hA c _ (fun q => ?_) (ownH_at h))) (hs0.go.gone (hc h).1) (each_ent _)
                  have := (hc h).1
                  rw [q, f4] at this; cases this
              have ecT : cellsT (ownT c 5 (N.map Ent.enc)) = some [ownT c 5 (N.map Ent.enc)] := cells_own _ _ _
              have eoT : oneT (ownT c 5 (N.map Ent.enc)) = true := one_own _ _ _
              replace cv2 := later cv2
              replace hk1 := later hk1
              clear f3 f4 hc hcn
              generalize ownH (upd K2 x (.cells [T1, ownT c 5 (N.map Ent.enc)])) c (N.map Ent.enc) = K3 at *
              generalize ownT c 5 (N.map Ent.enc) = T2 at *
              (repeat' (first | refine wk ?_ | refine wk2 ?_ ?_ | with_reducible refine wkF fun _ _ _ => ?_ | with_reducible intro _ | exact ag | fail))
              have hs : Sub H (upd K3 w (.cells [T1, T2])) := Sub.upd (hs0.go.trans hk1.go) hw0
              have hk : ∀ p r, p ≠ w → K3 p = some r → upd K3 w (.cells [T1, T2]) p = some r := fun p r hp hr => by rw [upd_eq, if_neg hp]; exact hr
              exact Fin.done (vs := [.agg [T1, T2], .s (.int .i64 0)]) ag hs (Conv.tup (.cons (Conv.agg (.cons (cv1.go _ (fun p r hp hr => hk p r hp (hk1.go p r hr)) hs) (.cons (cv2.go _ hk hs) .nil))) (.cons (Conv.refl hs _) .nil))) ⟨rfl, rfl⟩
          · have e0 : ((R.l.take 0).filter fun e => !mdB md e).map Ent.enc = [] := rfl
            simp only [e0, ownT_nil, ownH_nil]
            exact leK (Sub.refl _)
      · have e0 : ((R.mods.take 0).filter fun s => !(s.toList == md.toList)).map s1 = [] := rfl
        simp only [e0, ownT_nil, ownH_nil]
        exact leK (Sub.refl _)
end Go.Abs
/- What modules export: List. -/
namespace Go.Abs
set_option linter.unusedSimpArgs false
set_option linter.unusedVariables false
set_option maxHeartbeats 4000000
open Go.Proofs Go.Nm Go.Wd
set_option linter.unusedVariables false
set_option linter.unusedSectionVars false
set_option maxRecDepth 8000
variable {H : Heap}
set_option maxHeartbeats 2000000 in
theorem listS_c {G : Heap} (g : GH G) (hs : Sub G H) {t mb eb : Nat} {S : Sym} (hS : SymAt H t mb eb S) (n2 : t ≠ eb) (hf : LFit (S.ents.map (·.2))) (hk : ((S.ents.map (·.2)).map (·.nm)).Nodup) (hv : ∀ e ∈ S.ents.map (·.2), chk e.nm = 0 ∧ few e.nm) :
    AC Tryd.prog 11 [.s (.pointer (some ⟨t, 0, none⟩))] H (fun r H' => ∃ (b : Nat) (L : List Ent), L.Perm (S.ents.map (·.2)) ∧ Ordered L ∧ (L ≠ [] → H b = none) ∧ r = ownT b 5 (L.map Ent.enc) ∧ H' = ownH H b (L.map Ent.enc)) := by
  refine AC.body Tryd.func11 rfl rfl (n := 24) (res := [.tmp 2]) rfl rfl (by simp) ?_
  simp only [ent]
  obtain ⟨h1, h2, h3⟩ := hS
  refine ARun.openF (enc := strV) (f := fun e : Ent => .agg e.enc) (l := S.ents) eb h3 fun l clock e1 e2 e3 => ?_
  have hte : (t = eb) = False := eq_false n2
  have hll : l.length ≤ 10000 := by have := hf.ll; rw [← e1] at this; simpa using this
  replace e1 := later e1
  replace e2 := later e2
  replace e3 := later e3
  replace hv := later hv
  replace hk := later hk
  replace g := later g
  clear hf
  (repeat' (first | refine wk ?_ | refine wk2 ?_ ?_ | with_reducible refine wkF fun _ _ _ => ?_ | with_reducible intro _ | refine Doing.fresh (oc_rangeF um56 (upd_self _ _ _)) fun _ _ _ => ?_ | exact ag | fail))
  rename_i it hit hitn
  have hbe : (it = eb) = False ∧ (eb = it) = False := by
    have := hitn eb (by rw [upd_self]; rfl)
    exact ⟨this.2, this.1⟩
  have hi0 := nu1 hit
  clear hit hitn
  have hME : ∀ r, upd (upd H eb (mapBF strV (fun e : Ent => .agg e.enc) l clock)) it r eb = some (mapBF strV (fun e : Ent => .agg e.enc) l clock) := fun r => by rw [upd_eq, if_neg (by rw [hbe.2]; exact id)]; exact upd_self _ _ _
  replace hME := later hME
  refine ARun.rounds (fun st : (List (Nat × ByteArray × Ent) × List (Nat × ByteArray × Ent)) × Nat => ⟨[(3, ownT st.2 5 ((st.1.1.map (·.2.2)).map Ent.enc)), (12, .s (.pointer (some ⟨it, 0, none⟩)))], ownH (upd (upd H eb (mapBF strV (fun e : Ent => .agg e.enc) l clock)) it (itR eb clock (st.1.1.map (·.1)) clock)) st.2 ((st.1.1.map (·.2.2)).map Ent.enc)⟩)
    (fun st => st.1.2.length) (fun st => (st.1.1 ++ st.1.2).Perm l ∧ (((st.1.1.map (·.2.2)).map Ent.enc) ≠ [] → H st.2 = none ∧ st.2 ≠ eb ∧ st.2 ≠ it)) ?_ (([], l), 0) ⟨.refl _, fun h => absurd rfl h⟩ ?_
  · rintro ⟨⟨done, rest⟩, b⟩ ⟨hperm, hb⟩ next
    simp only [] at hperm hb ⊢
    have hdl : (done.map (·.2.2)).length ≤ 10000 := by
      have := hperm.length_eq
      rw [List.length_append] at this
      rw [List.length_map]; omega
    replace hperm := later hperm
    generalize hdn : done.map (·.1) = dn at *
    generalize hdd : done.map (·.2.2) = dd at *
    have hbf : ∀ r, dd.map Ent.enc ≠ [] → upd (upd H eb (mapBF strV (fun e : Ent => .agg e.enc) l clock)) it r b = none := fun r h => by rw [upd_eq, if_neg (hb h).2.2, upd_eq, if_neg (hb h).2.1]; exact (hb h).1
    replace hbf := later hbf
    replace hb := later hb
    (repeat' (first | refine wk ?_ | refine wk2 ?_ ?_ | with_reducible refine wkF fun _ _ _ => ?_ | with_reducible intro _ | exact ag | fail))
    refine Doing.by (oc_nextF (l := l) (clock := clock) (enc := strV) (f := fun e : Ent => .agg e.enc) (since := clock) (last := clock) (marks := dn) (ownH_keep (hbf.go _) (upd_self _ _ _)) (ownH_keep (hbf.go _) (hME.go _)) e2.go e2.go) ?_
    rintro _ _ (⟨e, he, hn, rfl, rfl⟩ | ⟨hall, rfl, rfl⟩)
    · rw [own_store (fun h => (hb.go h).2.2)]
      obtain ⟨rest', hr1, hr2, hr3⟩ := pick_one e3.go hperm.go he (by rw [hdn]; exact hn)
      have nx := fun b' hb' => next.go ((done ++ [e], rest'), b') ⟨hr2, hb'⟩ hr3
      simp only [List.map_append, List.map_cons, List.map_nil, hdn, hdd] at nx
      replace he := later he
      replace nx := later nx
      have f1 := ownH_keep (c := it) (b := b) (L := dd.map Ent.enc) (hbf.go (itR eb clock (dn ++ [e.1]) clock)) (upd_self _ _ _)
      have f2 := ownH_keep (c := eb) (b := b) (L := dd.map Ent.enc) (hbf.go (itR eb clock (dn ++ [e.1]) clock)) (hME.go _)
      have hb1 := hbf.go (itR eb clock (dn ++ [e.1]) clock)
      have hK : ∀ p, upd (upd H eb (mapBF strV (fun e : Ent => .agg e.enc) l clock)) it (itR eb clock (dn ++ [e.1]) clock) p = none → H p = none ∧ p ≠ eb ∧ p ≠ it := fun p hp => by
        have p1 : p ≠ it := by rintro rfl; rw [upd_self] at hp; cases hp
        rw [upd_eq, if_neg p1] at hp
        have p2 : p ≠ eb := by rintro rfl; rw [upd_self] at hp; cases hp
        rw [upd_eq, if_neg p2] at hp
        exact ⟨hp, p2, p1⟩
      replace hb1 := later hb1
      replace hK := later hK
      clear next hr1 hr2 hr3 hn hperm hdn hdd
      generalize upd (upd H eb (mapBF strV (fun e : Ent => .agg e.enc) l clock)) it (itR eb clock (dn ++ [e.1]) clock) = K1 at *
      simp only [strV]
      (repeat' (first | refine wk ?_ | refine wk2 ?_ ?_ | with_reducible refine wkF fun _ _ _ => ?_ | with_reducible intro _ | refine Doing.eq (oc_entryF (l := l) (clock := clock) (enc := strV) (f := fun e : Ent => .agg e.enc) (p := e) f1 f2 he.go e3.go) ?_ | exact ag | fail))
      rename_i x hx hxn
      rw [own_upd hx]
      have hb2 := own_left (E := Root.cells e.2.2.enc) hb1.go hx
      have hxK := own_gone hb1.go hx
      replace hb2 := later hb2
      replace hxK := later hxK
      clear hx hxn f1 f2
      (repeat' (first | refine wk ?_ | refine wk2 ?_ ?_ | with_reducible refine wkF fun _ _ _ => ?_ | with_reducible intro _ | refine Doing.fresh (oc_build1 ap28 (fun _ h => by cases h; rfl) rfl rfl (by decide) (by decide)) fun _ _ _ => ?_ | refine Doing.fresh (oc_append1 (e := e.2.2.enc) ap28 us28 (each_ent _) rfl rfl hb2.go (by assumption) (by simp; omega) (by simp; omega)) fun _ _ _ => ?_ | exact ag | fail))
      rename_i b' hb' _
      exact ARun.weaken (nx.go b' fun _ => hK.go b' ((Sub.upd (Sub.refl K1) hxK.go).gone hb')) (leK (own_sub hxK.go hb'))
    · obtain rfl := all_done e3.go hperm.go (fun e he => by rw [hdn]; exact hall e he)
      have hp : dd.Perm (S.ents.map (·.2)) := by
        have := hperm.go.map (·.2.2)
        rw [List.append_nil, hdd] at this
        rw [← e1.go, List.map_map]; exact this
      have hback : upd (ownH (upd (upd H eb (mapBF strV (fun e : Ent => .agg e.enc) l clock)) it (itR eb clock dn clock)) b (dd.map Ent.enc)) eb (mapF strV (fun e : Ent => .agg e.enc) (l.map (·.2))) = ownH (upd H it (itR eb clock dn clock)) b (dd.map Ent.enc) := by
        rw [e1.go]
        have e0 : upd (upd (upd H eb (mapBF strV (fun e : Ent => .agg e.enc) l clock)) it (itR eb clock dn clock)) eb (mapF strV (fun e : Ent => .agg e.enc) S.ents) = upd H it (itR eb clock dn clock) := by
          funext x
          simp only [upd_eq]
          by_cases x1 : x = eb
          · subst x1; rw [if_pos rfl, if_neg (by rw [hbe.2]; exact id), h3]; rfl
          · simp only [if_neg x1]
        by_cases hq : dd.map Ent.enc = []
        · rw [hq, ownH_nil, ownH_nil]; exact e0
        · rw [← e0, ownH_ne' hq, ownH_ne' hq]
          funext x
          simp only [upd_eq]
          by_cases x1 : x = b
          · subst x1; rw [if_neg (hb.go hq).2.1, if_pos rfl, if_pos rfl]
          · simp only [if_neg x1]
      refine wa ?_
      refine ARun.shutF (z := l) eb (ownH_keep (hbf.go _) (hME.go _)) ?_
      rw [hback]
      clear next hall hperm hbf hME hback hdn hdd
      have hvd : ∀ e ∈ dd, chk e.nm = 0 ∧ few e.nm := fun e he => hv.go e (hp.mem_iff.1 he)
      have hkd : (dd.map (·.nm)).Nodup := ((hp.map _).nodup_iff).2 hk.go
      have hsI : Sub H (upd H it (itR eb clock dn clock)) := Sub.upd (Sub.refl H) hi0
      have hsg := hs.trans hsI
      replace hp := later hp
      replace hsI := later hsI
      replace hvd := later hvd
      replace hkd := later hkd
      replace hsg := later hsg
      by_cases hq : dd = []
      · subst hq
        have Q := fun f H => sortN_c f H
        simp only [List.map_nil, ownT_nil, ownH_nil]
        (repeat' (first | refine wk ?_ | refine wk2 ?_ ?_ | with_reducible refine wkF fun _ _ _ => ?_ | with_reducible intro _ | refine Calling.eq (Q _ _) ?_ | exact ag | fail))
        exact Fin.plain agr hsI.go ⟨0, [], hp.go, trivial, fun h => absurd rfl h, rfl, rfl⟩
      · have hqm : dd.map Ent.enc ≠ [] := fun h => hq (by simpa using h)
        obtain ⟨hb1, hb2, hb3⟩ := hb.go hqm
        have hbI : upd H it (itR eb clock dn clock) b = none := by rw [upd_eq, if_neg hb3]; exact hb1
        have hle : (dd.map Ent.enc).length = dd.length := by simp
        have hsg2 := hsg.go.trans (sub_ownK (b := b) (L := dd.map Ent.enc) (Sub.refl (upd H it (itR eb clock dn clock))) (fun _ => hbI))
        have Q := sortE_c g.go hsg2 (b := b) hq hvd.go hkd.go (ownH_at hqm) (by omega)
        replace Q := later Q
        rw [ownT_ne hqm, hle]
        clear hbI
        (repeat' (first | refine wk ?_ | refine wk2 ?_ ?_ | with_reducible refine wkF fun _ _ _ => ?_ | with_reducible intro _ | exact ag | fail))
        refine Calling.by Q.go ?_
        rintro _ _ ⟨l', hl', ho, rfl, rfl⟩
        have hlen : l'.length = dd.length := hl'.length_eq
        have hl'q : l'.map Ent.enc ≠ [] := fun h => hq (by
          have : l' = [] := by simpa using h
          rw [this] at hlen; exact List.length_eq_zero_iff.1 hlen.symm)
        rw [ownH_ne' hqm, upd_upd]
        (repeat' (first | refine wk ?_ | refine wk2 ?_ ?_ | with_reducible refine wkF fun _ _ _ => ?_ | with_reducible intro _ | exact ag | fail))
        refine Fin.plain agr (H' := ownH H b (l'.map Ent.enc)) ?_ ⟨b, l', hl'.trans hp.go, ho, fun _ => hb1, ?_, rfl⟩
        · rw [ownH_ne' hl'q]; exact Sub.upd2 hsI.go _ _
        · rw [ownT_ne hl'q, List.length_map, hlen]; rfl
  · simp only [List.map_nil, ownT_nil, ownH_nil]
    exact leK (Sub.refl _)
end Go.Abs
