import Derived.Test.YtephimncnnogfaaDoorMg5
import Derived.Test.YtephimncnnogfaaDoorMg2
import Derived.Test.YtephimncnnogfaaDoorProg
import Derived.Lib.LaidU8
import Derived.Test.YtephimncnnogfaaDoorV
import Derived.Test.YtephimncnnogfaaDoorOp
import Derived.Deep.Slices
/- What modules export: a table as the laws see it. -/
namespace Go.Abs
set_option linter.unusedSimpArgs false
set_option linter.unusedVariables false
set_option maxHeartbeats 4000000
open Go.Proofs Go.Nm Go.Wd
set_option linter.unusedVariables false
set_option linter.unusedSectionVars false
set_option maxRecDepth 8000
variable {H : Heap}
/-- What a call leaves, seen otherwise. -/
theorem AC.post {P : Program} {g : FuncId} {args : List TV} {C C' : TV → Heap → Prop} (h : AC P g args H C) (hc : ∀ r K, C r K → ∃ r' K', C' r' K' ∧ Sub K' K ∧ Conv K K' r r') : AC P g args H C' := by
  intro argv w ha hh
  have main : ∀ v w', After C H w v w' → After C' H w v w' := fun v w' ⟨r, K, hC, hv, hrel, e⟩ => by
    obtain ⟨r', K', h1, h2, h3⟩ := hc r K hC
    exact ⟨r', K', h1, h3 w' v hrel hv, hrel.le h2, ⟨e.size, fun b hb hn => ⟨(e.keep b hb hn).1, h2.gone (e.keep b hb hn).2⟩, e.bsz, e.os, e.tape, e.output, e.drawn⟩⟩
  rcases h argv w ha hh with ⟨h1, h2⟩ | ⟨v, w', h1, h2⟩
  · refine .inl ⟨h1, fun cs => ?_⟩
    obtain ⟨e, w', fr, ⟨v, he, hA⟩, s⟩ := h2 cs
    exact ⟨e, w', fr, ⟨v, he, main v w' hA⟩, s⟩
  · exact .inr ⟨v, w', h1, main v w' h2⟩
theorem width_four (s : ByteArray) (pos : Nat) : (Utf8.decode s pos).2 ≤ 4 := by
  rw [Go.Lib.decode_at]; unfold Go.Lib.decodeN
  repeat' split
  all_goals simp
theorem rl_many (s : ByteArray) : ∀ f p, s.size ≤ p + f → s.size ≤ p + 4 * (rl s f p).length
  | 0, p, h => by omega
  | f + 1, p, h => by
    unfold rl
    have h1 := width_four s p
    have h2 := width_pos s p
    split
    · have := rl_many s f (p + (Utf8.decode s p).2) (by omega)
      simp only [List.length_cons]
      omega
    · omega
theorem runes_many (s : ByteArray) : ∀ (f p : Nat) (n : Int), 0 ≤ n → n + f < 9223372036854775808 → runesFrom s f p n = n + (rl s f p).length
  | 0, p, n, h0, h => by simp [runesFrom, rl]
  | f + 1, p, n, h0, h => by
    unfold runesFrom rl
    split
    · rw [Go.Nm.w64 (by omega) (by omega), runes_many s f _ (n + 1) (by omega) (by omega)]
      simp
      omega
    · simp
/-- A name is short. -/
theorem chk_few {s : ByteArray} (hf : fits s) (h : chk s = 0) : few s := by
  unfold chk at h
  split at h
  · cases h
  · split at h
    · cases h
    · rename_i hr
      have hz : s.size < 9223372036854775808 := hf
      have h1 : runes s = (rl s s.size 0).length := by
        unfold runes
        rw [runes_many s s.size 0 0 (by omega) (by omega)]
        omega
      have h2 := rl_many s s.size 0 (by omega)
      unfold few
      omega
/-- The memory of the program's table. -/
structure STab (H : Heap) (t mb eb : Nat) (HS : Sym → Heap) : Prop where
  sub : ∀ S, Sub H (HS S)
  tab : ∀ S, SymAt (HS S) t mb eb S
  set : ∀ S S', upd (upd (HS S) mb (setR strV S'.mods)) eb (entR S'.ents) = HS S'
  n1 : t ≠ mb
  n2 : t ≠ eb
  n3 : mb ≠ eb
theorem SymAt.up {t mb eb : Nat} {S : Sym} (h : SymAt H t mb eb S) {b : Nat} (hb : H b = none) (r : Root) : SymAt (upd H b r) t mb eb S := by
  refine ⟨?_, ?_, ?_⟩
  · rw [upd_eq, if_neg (by rintro rfl; rw [h.tab] at hb; cases hb)]; exact h.tab
  · rw [upd_eq, if_neg (by rintro rfl; rw [h.mod] at hb; cases hb)]; exact h.mod
  · rw [upd_eq, if_neg (by rintro rfl; rw [h.ent] at hb; cases hb)]; exact h.ent
theorem upd_comm {a b : Nat} (h : a ≠ b) (A B : Root) : upd (upd H a A) b B = upd (upd H b B) a A := by
  funext x
  simp only [upd_eq]
  by_cases x1 : x = a
  · subst x1; simp only [if_true, if_neg h]
  · simp only [if_neg x1]
/-- One block more beside the table. -/
theorem STab.up {t mb eb : Nat} {HS : Sym → Heap} (T : STab H t mb eb HS) {b : Nat} (hb : ∃ S, HS S b = none) (r : Root) : STab H t mb eb (fun S => upd (HS S) b r) := by
  obtain ⟨S0, hb⟩ := hb
  have h := T.tab S0
  have b1 : t ≠ b := by rintro rfl; rw [h.tab] at hb; cases hb
  have b2 : mb ≠ b := by rintro rfl; rw [h.mod] at hb; cases hb
  have b3 : eb ≠ b := by rintro rfl; rw [h.ent] at hb; cases hb
  have hn : ∀ S, HS S b = none := fun S => by
    rw [← T.set S0 S, upd_eq, if_neg b3.symm, upd_eq, if_neg b2.symm]; exact hb
  refine ⟨fun S => Sub.upd (T.sub S) ((T.sub S).gone (hn S)), fun S => (T.tab S).up (hn S) r, fun S S' => ?_, T.n1, T.n2, T.n3⟩
  show upd (upd (upd (HS S) b r) mb _) eb _ = upd (HS S') b r
  rw [← T.set S S', upd_comm b2.symm, upd_comm b3.symm]
theorem newT_c (H : Heap) : AC Tryd.prog 9 [] H (fun r H' => ∃ t mb eb HS, STab H t mb eb HS ∧ r = .s (.pointer (some ⟨t, 0, none⟩)) ∧ H' = HS ⟨[], []⟩) := by
  refine AC.mono (newS_c H) ?_
  rintro _ _ ⟨t, mb, eb, rfl, ht, hmb, heb, n1, n2, n3, rfl⟩
  refine ⟨t, mb, eb, fun S => upd (upd (upd H mb (setR strV S.mods)) eb (entR S.ents)) t (.cells [.s (.map (some mb)), .s (.map (some eb))]), ⟨fun S => ?_, fun S => ⟨?_, ?_, ?_⟩, fun S S' => ?_, n1, n2, n3⟩, rfl, rfl⟩
  · intro p q hp
    have p1 : p ≠ t := by rintro rfl; rw [ht] at hp; cases hp
    have p2 : p ≠ mb := by rintro rfl; rw [hmb] at hp; cases hp
    have p3 : p ≠ eb := by rintro rfl; rw [heb] at hp; cases hp
    simp only [upd_eq, if_neg p1, if_neg p2, if_neg p3]; exact hp
  · simp only [upd_eq, if_true]
  · simp only [upd_eq, if_neg n1.symm, if_neg n3, if_true]
  · simp only [upd_eq, if_neg n2.symm, if_true]
  · funext x
    simp only [upd_eq]
    by_cases x1 : x = eb
    · subst x1; simp only [if_true, if_neg n2.symm]
    · by_cases x2 : x = mb
      · subst x2; simp only [if_true, if_neg x1, if_neg n1.symm]
      · simp only [if_neg x1, if_neg x2]
section
variable {G : Heap} {t mb eb : Nat} {HS : Sym → Heap}
theorem STab.add (T : STab H t mb eb HS) (g : GH G) (hs : Sub G H) (S : Sym) {md : ByteArray} (hmd : fits md) (gt : Int) {ex : List ByteArray} (hex : ∀ s ∈ ex, fits s) (hl : ex.length < 4611686018427387904) :
    AC Tryd.prog 10 [.s (.pointer (some ⟨t, 0, none⟩)), .s (.string md), .s (.int .i64 gt), .vs 1 (ex.map s1)] (HS S) (fun r H' => r = .s (.int .i64 (S.addE md gt ex)) ∧ H' = HS (S.add md gt ex)) := by
  have h := addS_c g (hs.trans (T.sub S)) (T.tab S) T.n1 T.n2 T.n3 hmd (gt := gt) hex hl
  rw [T.set] at h
  exact h
theorem STab.rem (T : STab H t mb eb HS) {S : Sym} (hf : LFit (S.ents.map (·.2))) (hk : (S.ents.map (·.1)).Nodup) (md : ByteArray) :
    AC Tryd.prog 19 [.s (.pointer (some ⟨t, 0, none⟩)), .s (.string md)] (HS S) (fun r H' => r = .s (.int .i64 (S.remE md)) ∧ H' = HS (S.rem md)) := by
  have h := removeS_c (T.tab S) T.n1 T.n2 T.n3 hf hk md
  rw [T.set] at h
  exact h
theorem Sym.cnt_mods (S : Sym) (by_ : Int) (names : List ByteArray) : (S.cnt by_ names).mods = S.mods := by unfold Sym.cnt; split <;> rfl
theorem STab.cnt (T : STab H t mb eb HS) {S : Sym} (hf : LFit (S.ents.map (·.2))) (hk : (S.ents.map (·.1)).Nodup) (names : List ByteArray) (hl : names.length < 4611686018427387904) {by_ : Int} (hby : by_ = 1 ∨ by_ = -1) :
    AC Tryd.prog 38 [.s (.pointer (some ⟨t, 0, none⟩)), .vs 1 (names.map s1), .s (.int .i64 by_)] (HS S) (fun r H' => r = .s (.int .i64 (S.cntE by_ names)) ∧ H' = HS (S.cnt by_ names)) := by
  have h := count_c (T.tab S) T.n2 hf hk names hl hby
  have e := T.set S (S.cnt by_ names)
  rw [Sym.cnt_mods, upd_same (T.tab S).mod] at e
  rw [e] at h
  exact h
theorem STab.hold (T : STab H t mb eb HS) {S : Sym} (hf : LFit (S.ents.map (·.2))) (hk : (S.ents.map (·.1)).Nodup) (names : List ByteArray) (hl : names.length < 4611686018427387904) :
    AC Tryd.prog 17 [.s (.pointer (some ⟨t, 0, none⟩)), .vs 1 (names.map s1)] (HS S) (fun r H' => r = .s (.int .i64 (S.cntE 1 names)) ∧ H' = HS (S.cnt 1 names)) := by
  refine AC.body Tryd.func17 rfl rfl (n := 8) (res := [.tmp 4]) rfl rfl (by simp) ?_
  simp only [ent]
  have C := T.cnt hf hk names hl (.inl rfl)
  clear hf hk hl T
  (repeat' (first | refine wk ?_ | refine wk2 ?_ ?_ | with_reducible refine wkF fun _ _ _ => ?_ | with_reducible intro _ | refine Calling.eq (C) ?_ | exact ag | fail))
  exact fin0
theorem STab.drop (T : STab H t mb eb HS) {S : Sym} (hf : LFit (S.ents.map (·.2))) (hk : (S.ents.map (·.1)).Nodup) (names : List ByteArray) (hl : names.length < 4611686018427387904) :
    AC Tryd.prog 20 [.s (.pointer (some ⟨t, 0, none⟩)), .vs 1 (names.map s1)] (HS S) (fun r H' => r = .s (.int .i64 (S.cntE (-1) names)) ∧ H' = HS (S.cnt (-1) names)) := by
  refine AC.body Tryd.func20 rfl rfl (n := 8) (res := [.tmp 4]) rfl rfl (by simp) ?_
  simp only [ent]
  have C := T.cnt hf hk names hl (.inr rfl)
  clear hf hk hl T
  (repeat' (first | refine wk ?_ | refine wk2 ?_ ?_ | with_reducible refine wkF fun _ _ _ => ?_ | with_reducible intro _ | refine Calling.eq (C) ?_ | exact ag | fail))
  exact fin0
theorem each_entL (L : List Ent) : Each 5 (L.map Ent.enc) := fun e h => by
  obtain ⟨x, _, rfl⟩ := List.mem_map.1 h; rfl
/-- List, of which nothing is written. -/
theorem STab.list (T : STab H t mb eb HS) (g : GH G) (hs : Sub G H) {S : Sym} (hf : LFit (S.ents.map (·.2))) (hk : ((S.ents.map (·.2)).map (·.nm)).Nodup) (hv : ∀ e ∈ S.ents.map (·.2), chk e.nm = 0 ∧ few e.nm) :
    AC Tryd.prog 11 [.s (.pointer (some ⟨t, 0, none⟩))] (HS S) (fun r H' => ∃ L : List Ent, L.Perm (S.ents.map (·.2)) ∧ Ordered L ∧ r = .vs 5 (L.map Ent.enc) ∧ H' = HS S) := by
  refine AC.post (listS_c g (hs.trans (T.sub S)) (T.tab S) T.n2 hf hk hv) ?_
  rintro _ _ ⟨b, L, hp, ho, hb, rfl, rfl⟩
  have hb' : L.map Ent.enc ≠ [] → HS S b = none := fun h => hb (by rintro rfl; exact h rfl)
  exact ⟨_, _, ⟨L, hp, ho, rfl, rfl⟩, sub_ownK (Sub.refl _) hb', conv_ownK (Sub.refl _) hb' (each_entL L)⟩
end
end Go.Abs
/- What every right table has. -/
namespace Go.Abs
set_option linter.unusedSimpArgs false
set_option linter.unusedVariables false
set_option maxHeartbeats 4000000
open Go.Proofs Go.Nm Go.Wd
set_option linter.unusedVariables false
set_option linter.unusedSectionVars false
set_option maxRecDepth 8000
variable {H : Heap}
def awS : Sym := ⟨[⟨#[109]⟩], [(⟨#[102]⟩, ⟨⟨#[102]⟩, ⟨#[109]⟩, 2, 0, 0⟩), (⟨#[103]⟩, ⟨⟨#[103]⟩, ⟨#[109]⟩, 2, 1, 0⟩)]⟩
def awT : Sym := ⟨[⟨#[109]⟩], [(⟨#[102]⟩, ⟨⟨#[102]⟩, ⟨#[109]⟩, 2, 0, 0⟩), (⟨#[103]⟩, ⟨⟨#[103]⟩, ⟨#[109]⟩, 2, 1, 1⟩)]⟩
theorem aw1 : Sym.addE ⟨[], []⟩ ⟨#[109]⟩ 2 [⟨#[102]⟩, ⟨#[103]⟩] = 0 := by kernel_rfl
theorem aw2 : Sym.add ⟨[], []⟩ ⟨#[109]⟩ 2 [⟨#[102]⟩, ⟨#[103]⟩] = awS := by unfold Sym.add; rw [aw1]; rfl
theorem aw3 : Sym.cntE awS 1 [⟨#[103]⟩] = 0 := by kernel_rfl
theorem aw4 : Sym.cnt awS 1 [⟨#[103]⟩] = awT := by unfold Sym.cnt; rw [aw3]; kernel_rfl
theorem aw5 : Sym.remE awT ⟨#[109]⟩ = 26 := by kernel_rfl
theorem aw6 : Sym.rem awT ⟨#[109]⟩ = awT := Sym.rem_no (by rw [aw5]; decide)
theorem awF1 : LFit (awS.ents.map (·.2)) := ⟨by decide, fun e h => by simp [awS] at h; rcases h with rfl | rfl <;> decide⟩
theorem awF2 : LFit (awT.ents.map (·.2)) := ⟨by decide, fun e h => by simp [awT] at h; rcases h with rfl | rfl <;> decide⟩
theorem awK1 : (awS.ents.map (·.1)).Nodup := by simp [awS]
theorem awK2 : (awT.ents.map (·.1)).Nodup := by simp [awT]
theorem aw7 : getE ⟨#[103]⟩ awS.ents = some ⟨⟨#[103]⟩, ⟨#[109]⟩, 2, 1, 0⟩ := by kernel_rfl
theorem aw8 : (⟨⟨#[103]⟩, ⟨#[109]⟩, 2, 1, 0⟩ : Ent).slot = 17 := by kernel_rfl
theorem eqEl (a b a' b' : ByteArray) (c d e c' d' e' : Int) : eqTV Tryd.prog 9 33 (.agg [.s (.string a), .s (.string b), .s (.int .i64 c), .s (.int .i64 d), .s (.int .i64 e)]) (.agg [.s (.string a'), .s (.string b'), .s (.int .i64 c'), .s (.int .i64 d'), .s (.int .i64 e')]) =
    some ((a.toList == a'.toList) && ((b.toList == b'.toList) && ((c == c') && ((d == d') && ((e == e') && true))))) := by kernel_rfl
theorem eqEr (a b a' b' : ByteArray) (c d e c' d' e' : Int) : eqTV Tryd.prog 9 67 (.agg [.s (.string a), .s (.string b), .s (.int .i64 c), .s (.int .i64 d), .s (.int .i64 e)]) (.agg [.s (.string a'), .s (.string b'), .s (.int .i64 c'), .s (.int .i64 d'), .s (.int .i64 e')]) =
    some ((a.toList == a'.toList) && ((b.toList == b'.toList) && ((c == c') && ((d == d') && ((e == e') && true))))) := by kernel_rfl
@[go_sem] theorem egE : Tryd.prog.eqGuardType Tryd.prog.depth 33 = false := by kernel_rfl
@[go_sem] theorem egEr : Tryd.prog.eqGuardType Tryd.prog.depth 67 = false := by kernel_rfl
theorem eqE_iff (x y : Ent) : ((x.nm.toList == y.nm.toList) && ((x.md.toList == y.md.toList) && ((x.gt == y.gt) && ((x.ix == y.ix) && ((x.rf == y.rf) && true))))) = decide (x = y) := by
  obtain ⟨a, b, c, d, e⟩ := x; obtain ⟨a', b', c', d', e'⟩ := y
  rw [Bool.eq_iff_iff]; simp [toList_inj]
theorem eqE (x y : Ent) : eqTV Tryd.prog 9 33 (.agg x.enc) (.agg y.enc) = some (decide (x = y)) := by
  rw [Ent.enc_def, Ent.enc_def, eqEl, eqE_iff]
theorem eqR13 (x y : Ent) : eqTV Tryd.prog 9 67 (.agg x.enc) (.agg y.enc) = some (decide (x = y)) := by
  rw [Ent.enc_def, Ent.enc_def, eqEr, eqE_iff]
set_option maxHeartbeats 2000000 in
theorem awakeS_c {G : Heap} (g : GH G) (hs : Sub G H) : AC Tryd.prog 13 [] H (fun r H' => r = .s (.bool true) ∧ H' = H) := by
  refine AC.body Tryd.func13 rfl rfl (n := 55) (res := [.tmp 0]) rfl rfl (by simp) ?_
  simp only [ent]
  replace g := later g
  replace hs := later hs
  (repeat' (first | refine wk ?_ | refine wk2 ?_ ?_ | with_reducible refine wkF fun _ _ _ => ?_ | with_reducible intro _ | exact ag | fail))
  refine Calling.by (newT_c H) ?_
  rintro _ _ ⟨t, mb, eb, HS, T, rfl, rfl⟩
  have hsub := T.sub
  replace T := later T
  (repeat' (first | refine wk ?_ | refine wk2 ?_ ?_ | with_reducible refine wkF fun _ _ _ => ?_ | with_reducible intro _ | refine Doing.fresh (oc_build (n := 2) (es := [[.s (.string ⟨#[102]⟩)], [.s (.string ⟨#[103]⟩)]]) ap22 (fun _ h => by cases h; rfl) rfl rfl rfl (.cons rfl (.cons rfl .nil)) (by decide) (by decide) (by decide)) fun _ _ _ => ?_ | exact ag | fail))
  rename_i b hb hbn
  have h2 : ∀ r, Sub (HS ⟨[], []⟩) (upd (HS ⟨[], []⟩) b r) := fun r => Sub.upd (Sub.refl _) hb
  have A := T.go.add g.go hs.go ⟨[], []⟩ (md := ⟨#[109]⟩) (by unfold fits; decide) 2 (ex := [⟨#[102]⟩, ⟨#[103]⟩]) (fun s h => by simp at h; rcases h with rfl | rfl <;> (unfold fits; decide)) (by decide)
  rw [aw1, aw2] at A
  refine Calling.eq (AC.drop A (h2 _) (.cons (Conv.refl (h2 _) _) (.cons (Conv.refl (h2 _) _) (.cons (Conv.refl (h2 _) _) (.cons (conv_rs (L := [[TV.s (.string ⟨#[102]⟩)], [TV.s (.string ⟨#[103]⟩)]]) (h2 _) (upd_self _ _ _) hb (fun e he => by simp at he; rcases he with rfl | rfl <;> rfl)) .nil))))) ?_
  clear A h2 hb hbn
  have F := find_s (T.go.tab awS) ⟨#[103]⟩
  rw [aw7] at F
  simp only [Option.getD_some, Option.isSome_some, if_true, Ent.enc_def] at F
  have L := slot_c ⟨⟨#[103]⟩, ⟨#[109]⟩, 2, 1, 0⟩
  rw [aw8, Ent.enc_def] at L
  simp only [] at F L
  have e8 := eqE ⟨⟨#[103]⟩, ⟨#[109]⟩, 2, 1, 0⟩ ⟨⟨#[103]⟩, ⟨#[109]⟩, 2, 1, 0⟩
  rw [decide_eq_true rfl, Ent.enc_def] at e8
  (repeat' (first | refine wk ?_ | refine wk2 ?_ ?_ | with_reducible refine wkF fun _ _ _ => ?_ | with_reducible intro _ | refine Calling.eq (F) ?_ | refine Calling.eq (L _) ?_ | refine Doing.fresh (oc_build1 ap22 (fun _ h => by cases h; rfl) rfl rfl (by decide) (by decide)) fun _ _ _ => ?_ | exact ag | fail))
  rename_i x hx hxn b' hb' hbn'
  clear F e8 hxn hbn'
  have T2 := T.go.up ⟨_, hx⟩ (.cells [.s (.string ⟨#[103]⟩), .s (.string ⟨#[109]⟩), .s (.int .i64 2), .s (.int .i64 1), .s (.int .i64 0)])
  have h2 : ∀ r, Sub (upd (HS awS) x (.cells [.s (.string ⟨#[103]⟩), .s (.string ⟨#[109]⟩), .s (.int .i64 2), .s (.int .i64 1), .s (.int .i64 0)])) (upd (upd (HS awS) x (.cells [.s (.string ⟨#[103]⟩), .s (.string ⟨#[109]⟩), .s (.int .i64 2), .s (.int .i64 1), .s (.int .i64 0)])) b' r) := fun r => Sub.upd (Sub.refl _) hb'
  have A := T2.hold awF1 awK1 [⟨#[103]⟩] (by decide)
  rw [aw3, aw4] at A
  refine Calling.eq (AC.drop A (h2 _) (.cons (Conv.refl (h2 _) _) (.cons (conv_rs (L := [[TV.s (.string ⟨#[103]⟩)]]) (h2 _) (upd_self _ _ _) hb' (fun e he => by simp at he; subst he; rfl)) .nil))) ?_
  have R := T2.rem awF2 awK2 ⟨#[109]⟩
  rw [aw5, aw6] at R
  have hf := T2.sub awT
  clear A h2 hb' T2 hx
  (repeat' (first | refine wk ?_ | refine wk2 ?_ ?_ | with_reducible refine wkF fun _ _ _ => ?_ | with_reducible intro _ | refine Calling.eq (R) ?_ | exact ag | fail))
  exact fin0
end Go.Abs
/- The law SymtabSlots. -/
namespace Go.Abs
set_option linter.unusedSimpArgs false
set_option linter.unusedVariables false
open Go.Proofs Go.Nm Go.Wd
set_option linter.unusedVariables false
set_option linter.unusedSectionVars false
set_option maxRecDepth 8000
variable {H : Heap}
theorem Ent.slot_small {e : Ent} (h : 0 ≤ e.gt ∧ e.gt < 8 ∧ 0 ≤ e.ix ∧ e.ix < 8) : e.slot = e.gt * 8 + e.ix := by
  unfold Ent.slot
  rw [wi64 (x := e.gt * 8) (by omega) (by omega), wi64 (by omega) (by omega), w32 (by omega) (by omega)]
/-- What Add with success asks. -/
theorem add_asks {S : Sym} {md : ByteArray} {gt : Int} {ex : List ByteArray} (q : S.addE md gt ex = 0) : chk md = 0 ∧ (∀ s ∈ ex, chk s = 0) ∧ 0 ≤ gt ∧ gt < 8 ∧ ex.length ≤ 8 ∧ ex.Nodup ∧ md ∉ S.mods ∧ ∀ s ∈ ex, (getE s S.ents).isSome = false := by
  unfold Sym.addE at q
  have q1 : (badN md || decide (0 ≤ fi badN ex)) = false := by
    cases e : (badN md || decide (0 ≤ fi badN ex)) with
    | false => rfl
    | true => rw [e, if_pos rfl] at q; cases q
  rw [q1, if_neg (by decide)] at q
  have q2 : (decide (gt < 0) || (decide (8 ≤ gt) || (decide ((8 : Int) < ex.length) || decide (((setOf ex).length : Int) < ex.length)))) = false := by
    cases e : (decide (gt < 0) || (decide (8 ≤ gt) || (decide ((8 : Int) < ex.length) || decide (((setOf ex).length : Int) < ex.length)))) with
    | false => rfl
    | true => rw [e, if_pos rfl] at q; cases q
  rw [q2, if_neg (by decide)] at q
  have q3 : (inB md S.mods || decide (0 ≤ fi (fun s => (getE s S.ents).isSome) ex)) = false := by
    cases e : (inB md S.mods || decide (0 ≤ fi (fun s => (getE s S.ents).isSome) ex)) with
    | false => rfl
    | true => rw [e, if_pos rfl] at q; cases q
  simp only [Bool.or_eq_false_iff] at q1 q2 q3
  have ok : ∀ {s : ByteArray}, badN s = false → chk s = 0 := fun h => by unfold badN at h; simpa using h
  refine ⟨ok q1.1, fun s hs => ok (fi_nn q1.2 s hs), ?_, ?_, ?_, setOf_nodup.1 q2.2.2.2, ?_, fun s hs => fi_nn q3.2 s hs⟩
  · have := q2.1; simp at this; omega
  · have := q2.2.1; simp at this; omega
  · have := q2.2.2.1; simp at this; omega
  · have := q3.1; unfold inB at this; simpa using this
theorem Sym.add_yes {S : Sym} {md : ByteArray} {gt : Int} {ex : List ByteArray} (q : S.addE md gt ex = 0) : S.add md gt ex = ⟨S.mods ++ [md], S.ents ++ entsOf md gt ex⟩ := if_pos q
theorem mem_entsOf {md : ByteArray} {gt : Int} {l : List ByteArray} {p : ByteArray × Ent} : p ∈ entsOf md gt l ↔ ∃ (n : Nat) (s : ByteArray), l[n]? = some s ∧ p = (s, ⟨s, md, gt, n, 0⟩) := by
  unfold entsOf
  rw [List.mem_map]
  constructor
  · rintro ⟨⟨s, n⟩, hm, rfl⟩
    exact ⟨n, s, List.mem_zipIdx_iff_getElem?.1 hm, rfl⟩
  · rintro ⟨n, s, h, rfl⟩
    exact ⟨(s, n), List.mem_zipIdx_iff_getElem?.2 h, rfl⟩
/-- The program's table behind i modules. -/
def sst (ms : List ByteArray) (xs : List (List ByteArray)) : Nat → Sym
  | 0 => ⟨[], []⟩
  | i + 1 => if decide ((((xs[i]?).getD []).length : Int) ≤ 8) then (sst ms xs i).add ((ms[i]?).getD ByteArray.empty) i ((xs[i]?).getD []) else sst ms xs i
structure Slim (S : Sym) (i : Nat) : Prop where
  twin : ∃ R, Twin S R
  len : S.ents.length ≤ 8 * i
  all : ∀ p ∈ S.ents, chk p.2.nm = 0 ∧ few p.2.nm ∧ p.2.rf = 0 ∧ 0 ≤ p.2.gt ∧ p.2.gt < i ∧ p.2.gt < 8 ∧ 0 ≤ p.2.ix ∧ p.2.ix < 8
  one : (S.ents.map fun p => p.2.slot).Nodup
theorem Slim.zero : Slim ⟨[], []⟩ 0 := ⟨⟨_, .nil⟩, Nat.le_refl _, fun _ h => (List.not_mem_nil h).elim, .nil⟩
theorem Slim.more {S : Sym} {i : Nat} (h : Slim S i) : Slim S (i + 1) := ⟨h.twin, by have := h.len; omega, fun p hp => by have := h.all p hp; refine ⟨this.1, this.2.1, this.2.2.1, this.2.2.2.1, ?_, this.2.2.2.2.2⟩; have := this.2.2.2.2.1; omega, h.one⟩
theorem Slim.add {S : Sym} {i : Nat} (h : Slim S i) (md : ByteArray) {ex : List ByteArray} (hf : ∀ s ∈ ex, fits s) : Slim (S.add md i ex) (i + 1) := by
  by_cases q : S.addE md i ex = 0
  · obtain ⟨a1, a2, a3, a4, a5, a6, a7, a8⟩ := add_asks q
    have hl : (entsOf md (i : Int) ex).length = ex.length := by unfold entsOf; rw [List.length_map, List.length_zipIdx]
    have hnew : ∀ p ∈ entsOf md (i : Int) ex, chk p.2.nm = 0 ∧ few p.2.nm ∧ p.2.rf = 0 ∧ p.2.gt = i ∧ 0 ≤ p.2.ix ∧ p.2.ix < 8 := by
      intro p hp
      obtain ⟨n, s, hn, rfl⟩ := mem_entsOf.1 hp
      have hm := List.mem_of_getElem? hn
      have hlt := (List.getElem?_eq_some_iff.1 hn).1
      exact ⟨a2 s hm, chk_few (hf s hm) (a2 s hm), rfl, rfl, by show (0 : Int) ≤ (n : Int); omega, by show (n : Int) < 8; omega⟩
    obtain ⟨R, tw⟩ := h.twin
    refine ⟨⟨_, tw.add md i ex⟩, ?_, ?_, ?_⟩
    · rw [Sym.add_yes q, List.length_append, hl]; have := h.len; omega
    · rw [Sym.add_yes q]
      intro p hp
      rcases List.mem_append.1 hp with hp | hp
      · exact h.more.all p hp
      · obtain ⟨b1, b2, b3, b4, b5, b6⟩ := hnew p hp
        exact ⟨b1, b2, b3, by omega, by omega, by omega, b5, b6⟩
    · rw [Sym.add_yes q]
      show (List.map _ (S.ents ++ entsOf md (i : Int) ex)).Nodup
      rw [List.map_append, List.nodup_append]
      refine ⟨h.one, ?_, ?_⟩
      · unfold entsOf
        rw [List.map_map]
        have e : (ex.zipIdx.map ((fun p : ByteArray × Ent => p.2.slot) ∘ fun p : ByteArray × Nat => (p.1, (⟨p.1, md, (i : Int), ((p.2 : Nat) : Int), 0⟩ : Ent)))) = (ex.zipIdx.map Prod.snd).map fun n => (⟨md, md, (i : Int), ((n : Nat) : Int), 0⟩ : Ent).slot := by
          rw [List.map_map]; rfl
        rw [e, List.zipIdx_map_snd]
        unfold List.Nodup
        rw [List.pairwise_map]
        refine List.Pairwise.imp_of_mem ?_ (List.nodup_range' (s := 0) (n := ex.length))
        intro a b ha hb hne
        simp only [List.mem_range'_1] at ha hb
        rw [Ent.slot_small (by refine ⟨?_, ?_, ?_, ?_⟩ <;> (simp only []; omega)), Ent.slot_small (by refine ⟨?_, ?_, ?_, ?_⟩ <;> (simp only []; omega))]
        simp only []
        omega
      · intro a ha b hb e
        obtain ⟨p, hp, rfl⟩ := List.mem_map.1 ha
        obtain ⟨p', hp', rfl⟩ := List.mem_map.1 hb
        obtain ⟨b1, b2, b3, b4, b5, b6⟩ := hnew p' hp'
        obtain ⟨c1, c2, c3, c4, c5, c6, c7, c8⟩ := h.all p hp
        rw [Ent.slot_small ⟨c4, c6, c7, c8⟩, Ent.slot_small ⟨by omega, by omega, b5, b6⟩] at e
        omega
  · have : S.add md i ex = S := if_neg q
    rw [this]; exact h.more
theorem sst_slim {ms : List ByteArray} {xs : List (List ByteArray)} (hx : ∀ l ∈ xs, ∀ s ∈ l, fits s) : ∀ i, Slim (sst ms xs i) i
  | 0 => .zero
  | i + 1 => by
    unfold sst
    split
    · refine (sst_slim hx i).add _ fun s hs => ?_
      cases e : xs[i]? with
      | none => rw [e] at hs; exact (List.not_mem_nil hs).elim
      | some l => rw [e] at hs; exact hx l (List.mem_of_getElem? e) s hs
    · exact (sst_slim hx i).more
/-- What List tells then. -/
theorem Slim.row {S : Sym} {i : Nat} (h : Slim S i) (hi : i ≤ 8) {L : List Ent} (hp : L.Perm (S.ents.map (·.2))) : (∀ x ∈ L, x.rf = 0 ∧ 0 ≤ x.slot ∧ x.slot ≤ 63) ∧ ∀ (j k : Nat) (x y : Ent), k < j → L[j]? = some x → L[k]? = some y → x.slot ≠ y.slot ∧ x.nm ≠ y.nm := by
  obtain ⟨R, tw⟩ := h.twin
  have n1 : (L.map Ent.slot).Nodup := by
    refine ((hp.map Ent.slot).nodup_iff).2 ?_
    rw [List.map_map]; exact h.one
  have n2 : (L.map (·.nm)).Nodup := by
    refine ((hp.map (·.nm)).nodup_iff).2 ?_
    rw [List.map_map]
    have e : S.ents.map ((fun e : Ent => e.nm) ∘ fun p : ByteArray × Ent => p.2) = S.ents.map (·.1) := List.map_congr_left fun p hp => (tw.keys p hp).symm
    rw [e]; exact tw.nodup
  constructor
  · intro x hx
    obtain ⟨p, hp, rfl⟩ := List.mem_map.1 (hp.mem_iff.1 hx)
    obtain ⟨c1, c2, c3, c4, c5, c6, c7, c8⟩ := h.all p hp
    rw [Ent.slot_small ⟨c4, c6, c7, c8⟩]
    exact ⟨c3, by omega, by omega⟩
  · intro j k x y hk hx hy
    obtain ⟨hj1, rfl⟩ := List.getElem?_eq_some_iff.1 hx
    obtain ⟨hk1, rfl⟩ := List.getElem?_eq_some_iff.1 hy
    have m1 := List.pairwise_iff_getElem.1 n1 k j (by simpa using hk1) (by simpa using hj1) hk
    have m2 := List.pairwise_iff_getElem.1 n2 k j (by simpa using hk1) (by simpa using hj1) hk
    simp only [List.getElem_map] at m1 m2
    exact ⟨fun e => m1 e.symm, fun e => m2 e.symm⟩
end Go.Abs
/- The law SymtabSlots, walked. -/
namespace Go.Abs
set_option linter.unusedSimpArgs false
set_option linter.unusedVariables false
set_option maxHeartbeats 4000000
open Go.Proofs Go.Nm Go.Wd
set_option linter.unusedVariables false
set_option linter.unusedSectionVars false
set_option maxRecDepth 8000
variable {H : Heap}
def sl1 (l : List ByteArray) : List TV := [.vs 1 (l.map s1)]
theorem sl1_def (l : List ByteArray) : sl1 l = [.vs 1 (l.map s1)] := rfl
theorem sst_yes {ms : List ByteArray} {xs : List (List ByteArray)} {i : Nat} {m : ByteArray} {l : List ByteArray} (hm : ms[i]? = some m) (hl : (xs[i]?).getD [] = l) (h : decide ((l.length : Int) ≤ 8) = true) : sst ms xs (i + 1) = (sst ms xs i).add m i l := by
  show (if _ then _ else _) = _
  rw [hl, hm, if_pos h]; rfl
theorem sst_no {ms : List ByteArray} {xs : List (List ByteArray)} {i : Nat} {l : List ByteArray} (hl : (xs[i]?).getD [] = l) (h : decide ((l.length : Int) ≤ 8) = false) : sst ms xs (i + 1) = sst ms xs i := by
  show (if _ then _ else _) = _
  rw [hl, h]; rfl
set_option maxHeartbeats 4000000 in
theorem slots_c {G : Heap} (g : GH G) (hs : Sub G H) (ms : List ByteArray) (xs : List (List ByteArray)) (fm : ∀ s ∈ ms, fits s) (fx : ∀ l ∈ xs, ∀ s ∈ l, fits s) :
    AC Tryd.prog 3 [.vs 1 (ms.map s1), .vs 1 (xs.map sl1)] H (fun r H' => r = .s (.bool true) ∧ H' = H) := by
  refine AC.body Tryd.func3 rfl rfl (n := 97) (res := [.tmp 4]) rfl rfl (by simp) ?_
  simp only [ent]
  replace g := later g
  replace hs := later hs
  replace fm := later fm
  replace fx := later fx
  (repeat' (first | refine wk ?_ | refine wk2 ?_ ?_ | with_reducible refine wkF fun _ _ _ => ?_ | with_reducible intro _ | exact ag | fail))
  refine Calling.by (newT_c H) ?_
  rintro _ _ ⟨t, mb, eb, HS, T, rfl, rfl⟩
  replace T := later T
  (repeat' (first | refine wk ?_ | refine wk2 ?_ ?_ | with_reducible refine wkF fun _ _ _ => ?_ | with_reducible intro _ | exact ag | fail))
  refine ARun.rounds (fun i : Nat => ⟨[(0, .vs 1 (ms.map s1)), (1, .vs 1 (xs.map sl1)), (5, .s (.pointer (some ⟨t, 0, none⟩))), (6, .s (.int .i64 i))], HS (sst ms xs i)⟩)
    (fun i => 8 - i) (fun i => i ≤ 8 ∧ i ≤ ms.length) ?_ 0 ⟨by omega, by omega⟩ ?_
  · rintro i ⟨hi1, hi2⟩ next
    have e0 : (0 : Int) ≤ i := by omega
    have hw := w64s (i := i) (by omega)
    by_cases hlt : i < ms.length ∧ i < 8
    · obtain ⟨h1, h2⟩ := hlt
      have e1 : (i : Int) < ms.length := by omega
      have e2 : (i : Int) < 8 := by omega
      obtain ⟨m, hm1⟩ := at_ h1
      have hm2 := vget s1 hm1
      rw [s1_def m] at hm2
      have nx := next.go (i + 1) ⟨by omega, by omega⟩ (by omega)
      have fm1 := fm.go m (List.mem_of_getElem? hm1)
      clear next hi1 hi2
      by_cases h3 : i < xs.length
      · have e3 : (i : Int) < xs.length := by omega
        obtain ⟨l, hl⟩ := at_ h3
        have hl2 := vget sl1 hl
        rw [sl1_def l] at hl2
        have fs := fx.go l (List.mem_of_getElem? hl)
        have hg : (xs[i]?).getD [] = l := by rw [hl]; rfl
        cases q : decide ((l.length : Int) ≤ 8) with
        | true =>
          rw [sst_yes hm1 hg q] at nx
          have A := T.go.add g.go hs.go (sst ms xs i) fm1 i fs (by simp at q; omega)
          clear hm1 hl hg fs fm1
          generalize sst ms xs i = S at *
          replace nx := later nx
          (repeat' (first | refine wk ?_ | refine wk2 ?_ ?_ | with_reducible refine wkF fun _ _ _ => ?_ | with_reducible intro _ | refine Calling.eq (A) ?_ | exact ag | fail))
          exact ARun.weaken nx.go (leK (Sub.refl _))
        | false =>
          rw [sst_no hg q] at nx
          clear hm1 hl hg fs fm1
          generalize sst ms xs i = S at *
          replace nx := later nx
          (repeat' (first | refine wk ?_ | refine wk2 ?_ ?_ | with_reducible refine wkF fun _ _ _ => ?_ | with_reducible intro _ | exact ag | fail))
          exact ARun.weaken nx.go (leK (Sub.refl _))
      · have e3 : decide ((i : Int) < xs.length) = false := by simp; omega
        have hg : (xs[i]?).getD [] = [] := by rw [List.getElem?_eq_none (by omega)]; rfl
        rw [sst_yes hm1 hg rfl] at nx
        have A := AC.drop (T.go.add g.go hs.go (sst ms xs i) fm1 i (ex := []) (fun s hs => (List.not_mem_nil hs).elim) (by decide)) (Sub.refl _) (.cons (Conv.refl (Sub.refl _) _) (.cons (Conv.refl (Sub.refl _) _) (.cons (Conv.refl (Sub.refl _) _) (.cons conv_nils .nil))))
        clear hm1 hg fm1
        generalize sst ms xs i = S at *
        replace nx := later nx
        (repeat' (first | refine wk ?_ | refine wk2 ?_ ?_ | with_reducible refine wkF fun _ _ _ => ?_ | with_reducible intro _ | refine Calling.eq (A) ?_ | exact ag | fail))
        exact ARun.weaken nx.go (leK (Sub.refl _))
    · clear next
      have hsl := sst_slim (ms := ms) (xs := xs) fx.go i
      obtain ⟨R, tw⟩ := hsl.twin
      have hfit : LFit ((sst ms xs i).ents.map (·.2)) := ⟨by have := hsl.len; simp; omega, fun e he => by
        obtain ⟨p, hp, rfl⟩ := List.mem_map.1 he
        have := (hsl.all p hp).2.2.1
        omega⟩
      have hnd : (((sst ms xs i).ents.map (·.2)).map (·.nm)).Nodup := by
        rw [List.map_map]
        have e : (sst ms xs i).ents.map ((fun e : Ent => e.nm) ∘ fun p : ByteArray × Ent => p.2) = (sst ms xs i).ents.map (·.1) := List.map_congr_left fun p hp => (tw.keys p hp).symm
        rw [e]; exact tw.nodup
      have hv : ∀ e ∈ (sst ms xs i).ents.map (·.2), chk e.nm = 0 ∧ few e.nm := fun e he => by
        obtain ⟨p, hp, rfl⟩ := List.mem_map.1 he
        exact ⟨(hsl.all p hp).1, (hsl.all p hp).2.1⟩
      have hL := fun L hp => hsl.row (L := L) hi1 hp
      have hlen := hsl.len
      clear hsl tw R
      have Q := T.go.list g.go hs.go hfit hnd hv
      replace Q := later Q
      replace hL := later hL
      clear hfit hnd hv
      generalize sst ms xs i = S at *
      rcases (show decide ((i : Int) < ms.length) = false ∨ ((i : Int) < ms.length ∧ decide ((i : Int) < 8) = false) by
        by_cases h : i < ms.length
        · exact .inr ⟨by omega, by simp; omega⟩
        · exact .inl (by simp; omega)) with e1 | ⟨e1, e2⟩
      all_goals
        (repeat' (first | refine wk ?_ | refine wk2 ?_ ?_ | with_reducible refine wkF fun _ _ _ => ?_ | with_reducible intro _ | exact ag | fail))
        refine Calling.by Q.go ?_
        rintro _ _ ⟨L, hp, ho, rfl, rfl⟩
        have hlL : L.length ≤ 64 := by have := hp.length_eq; simp at this; omega
        obtain ⟨hA, hB⟩ := hL.go L hp
        replace hA := later hA
        replace hB := later hB
        clear hp ho hlen
        have W := fun H (hq : Sub G H) => awakeS_c (H := H) g.go hq
        have hsub := T.go.sub S
        have hsG := hs.go.trans hsub
        replace W := W _ hsG
        (repeat' (first | refine wk ?_ | refine wk2 ?_ ?_ | with_reducible refine wkF fun _ _ _ => ?_ | with_reducible intro _ | exact ag | fail))
        refine ARun.rounds (fun j : Nat => ⟨[(5, .s (.pointer (some ⟨t, 0, none⟩))), (8, .vs 5 (L.map Ent.enc)), (9, .s (.int .i64 j))], HS S⟩)
          (fun j => L.length - j) (fun j => j ≤ L.length) ?_ 0 (by omega) ?_
        · rintro j hj next
          have j0 : (0 : Int) ≤ j := by omega
          have jw := w64s (i := j) (by omega)
          by_cases hjl : j < L.length
          · have j1 : (j : Int) < L.length := by omega
            obtain ⟨x, hx1⟩ := at_ hjl
            have hx2 := vget Ent.enc hx1
            obtain ⟨x1, x2, x3⟩ := hA.go x (List.mem_of_getElem? hx1)
            have x4 : decide (63 < x.slot) = false := by simp; omega
            have SX := slot_c x
            have nx := next.go (j + 1) (by omega) (by omega)
            replace nx := later nx
            replace hx1 := later hx1
            rw [Ent.enc_def x, x1] at hx2
            simp only [Ent.enc_def x, x1] at SX
            clear next x1 x2 x3
            (repeat' (first | refine wk ?_ | refine wk2 ?_ ?_ | with_reducible refine wkF fun _ _ _ => ?_ | with_reducible intro _ | refine Calling.eq (SX _) ?_ | exact ag | fail))
            refine ARun.rounds (fun k : Nat => ⟨[(5, .s (.pointer (some ⟨t, 0, none⟩))), (8, .vs 5 (L.map Ent.enc)), (9, .s (.int .i64 j)), (10, .s (.int .i64 k))], HS S⟩)
              (fun k => j - k) (fun k => k ≤ j) ?_ 0 (by omega) ?_
            · rintro k hk next
              have k0 : (0 : Int) ≤ k := by omega
              have kw := w64s (i := k) (by omega)
              by_cases hkj : k < j
              · have k1 : (k : Int) < j := by omega
                have k2 : (k : Int) < L.length := by omega
                obtain ⟨y, hy1⟩ := at_ (show k < L.length by omega)
                have hy2 := vget Ent.enc hy1
                have SY := slot_c y
                obtain ⟨d1, d2⟩ := hB.go j k x y hkj hx1.go hy1
                have d3 : (x.slot == y.slot) = false := by simpa using d1
                have d4 : (x.nm.toList == y.nm.toList) = false := by rw [str_eq]; simpa using d2
                have nk := next.go (k + 1) (by omega) (by omega)
                replace nk := later nk
                rw [Ent.enc_def y] at hy2 SY
                clear next hy1 d1 d2
                (repeat' (first | refine wk ?_ | refine wk2 ?_ ?_ | with_reducible refine wkF fun _ _ _ => ?_ | with_reducible intro _ | exact ag | fail))
                refine ARun.drawT mixed [0, 1, 2, 3, 5, 6, 7, 8] (.alt 4 [0, 1, 2, 5, 6, 7, 8] [] (.alt 9 [0, 1, 2, 3, 5, 6, 7] [10, 11, 12, 13, 14, 15, 16, 17, 18, 19, 20, 21, 22, 23] .leaf .nil) .nil) (by kernel_rfl) (by rfl) ?_
                (repeat' (first | refine wk ?_ | refine wk2 ?_ ?_ | with_reducible refine wkF fun _ _ _ => ?_ | with_reducible intro _ | refine Calling.eq (SX _) ?_ | refine Calling.eq (SY _) ?_ | exact ag | fail))
                exact ARun.weaken nk.go (leK (Sub.refl _))
              · have k1 : decide ((k : Int) < j) = false := by simp; omega
                (repeat' (first | refine wk ?_ | refine wk2 ?_ ?_ | with_reducible refine wkF fun _ _ _ => ?_ | with_reducible intro _ | exact ag | fail))
                exact ARun.weaken nx.go (leK (Sub.refl _))
            · exact leK (Sub.refl _)
          · have j1 : decide ((j : Int) < L.length) = false := by simp; omega
            (repeat' (first | refine wk ?_ | refine wk2 ?_ ?_ | with_reducible refine wkF fun _ _ _ => ?_ | with_reducible intro _ | refine Calling.eq (W) ?_ | exact ag | fail))
            exact fin0
        · exact leK (Sub.refl _)
  · exact leK (Sub.refl _)
end Go.Abs
/- From a contract to a row: the library's variables are held as they are, the row's slices are read. -/
namespace Go.Proofs.YtephimncnnogfaaDoor
open Go.RowKit Go.Lib Go.Proofs.YtephimncnnogfaaDoorW.PrintWords
set_option linter.unusedVariables false
structure Glob (w : World) : Prop where
  m : ∃ m, w.cell? ⟨0, 0, none⟩ = some (.int .i64 m)
  u : Lib.Utf8Tabs 1 2 w
theorem laidH_plain (P : Program) (laid : List (String × DataW Unit)) (w : World) (h : (laid.all fun x => x.2.handleName?.isNone) = true) (hl : laidMetH P laid w) : laidMet P laid w := by
  have e : (laid.filter fun x => x.2.handleName?.isSome) = [] := by
    rw [List.filter_eq_nil_iff]
    intro x hx hs
    have := List.all_eq_true.1 h x hx
    cases hn : x.2.handleName? with
    | none => rw [hn] at hs; cases hs
    | some s => rw [hn] at this; cases this
  unfold laidMetH at hl
  rw [e] at hl
  exact hl
namespace P
end P
end Go.Proofs.YtephimncnnogfaaDoor
namespace Go.Abs
set_option linter.unusedSimpArgs false
set_option linter.unusedVariables false
open Go.Proofs Go.RowKit Go.Proofs.YtephimncnnogfaaDoor Go.Proofs.YtephimncnnogfaaDoorW.PrintWords
set_option linter.unusedVariables false
/-- The first n blocks, held as they are. -/
def heldAs (w : World) (n : Nat) : Heap := fun b => if b < n then (w.heap[b]?).map .exact else none
theorem heldAs_rel (w : World) (n : Nat) : HRel (heldAs w n) w := by
  intro b r h
  unfold heldAs at h
  split at h
  · cases e : w.heap[b]? with
    | none => rw [e] at h; cases h
    | some o => rw [e] at h; cases h; exact e
  · cases h
theorem heldAs_keep {w w' : World} {n : Nat} (h : HRel (heldAs w n) w') {b : Nat} (hb : b < n) (hs : b < w.heap.size) : w'.heap[b]? = w.heap[b]? := by
  have e : w.heap[b]? = some w.heap[b] := Array.getElem?_eq_getElem hs
  have := h b (.exact w.heap[b]) (by unfold heldAs; rw [if_pos hb, e]; rfl)
  rw [e]; exact this
theorem heldAs_none {w : World} {n b : Nat} (h : n ≤ b) : heldAs w n b = none := by unfold heldAs; rw [if_neg (by omega)]
theorem cell_lt' {w : World} {a : Addr} {v : Value} (hc : w.cell? a = some v) : a.block < w.heap.size := by
  rcases Nat.lt_or_ge a.block w.heap.size with h | h
  · exact h
  · simp [World.cell?, Array.getElem?_eq_none h] at hc
/-- A call that leaves the held blocks as they are leaves all blocks as they are. -/
theorem below_of {w w' : World} {n : Nat} (he : Ext (heldAs w n) w (heldAs w n) w') (hr : HRel (heldAs w n) w') : Below w.heap.size w w' where
  os := he.os
  tape := he.tape
  output := he.output
  size := he.size
  block := fun k hk => by
    by_cases h : k < n
    · exact heldAs_keep hr h hk
    · exact (he.keep k hk (heldAs_none (by omega))).1
theorem glob_held {w : World} (hG : Glob w) : GH (heldAs w 3) where
  exact := fun b hb => by
    unfold heldAs at hb ⊢
    split at hb
    · rename_i h; rw [if_pos h]
      cases e : w.heap[b]? with
      | none => rw [e] at hb; exact absurd rfl hb
      | some o => exact ⟨o, rfl⟩
    · exact absurd rfl hb
  tabs := fun w' hr => by
    have hc : ∀ b off v, b < 3 → w.cell? ⟨b, off, none⟩ = some v → w'.cell? ⟨b, off, none⟩ = some v := fun b off v hb hv => by
      have hk := heldAs_keep hr hb (cell_lt' hv)
      rw [← hv]; simp only [World.cell?, hk]
    exact ⟨fun c h => hc 1 c _ (by omega) (hG.u.1 c h), fun i h => ⟨hc 2 _ _ (by omega) (hG.u.2 i h).1, hc 2 _ _ (by omega) (hG.u.2 i h).2⟩⟩
  first := by
    have h0 := hG.u.1 0 (by decide)
    unfold World.cell? at h0
    split at h0
    · rename_i c e fz hb
      refine ⟨c, e, fz, ?_, fun i hi => ?_⟩
      · have hb' : w.heap[1]? = some (.cells c e fz) := hb
        unfold heldAs; rw [if_pos (by decide), hb']; rfl
      · have h1 := hG.u.1 i hi
        have hb' : w.heap[1]? = some (.cells c e fz) := hb
        simpa only [World.cell?, hb', Option.isSome_none, Bool.false_eq_true, if_false] using h1
    · cases h0
  acc := by
    have h0 := (hG.u.2 0 (by decide)).1
    unfold World.cell? at h0
    split at h0
    · rename_i c e fz hb
      refine ⟨c, e, fz, ?_, fun i hi => ?_⟩
      · have hb' : w.heap[2]? = some (.cells c e fz) := hb
        unfold heldAs; rw [if_pos (by decide), hb']; rfl
      · obtain ⟨h1, h2⟩ := hG.u.2 i hi
        have hb' : w.heap[2]? = some (.cells c e fz) := hb
        exact ⟨by simpa only [World.cell?, hb', Option.isSome_none, Bool.false_eq_true, if_false] using h1, by simpa only [World.cell?, hb', Option.isSome_none, Bool.false_eq_true, if_false] using h2⟩
    · cases h0
theorem repC_of {w : World} {F : Nat → Prop} {b : Nat} : ∀ (vs : List Value) (off : Nat), (∀ i u, vs[i]? = some u → w.cell? ⟨b, off + i, none⟩ = some u) → RepC w F b off (vs.map .s)
  | [], off, _ => by simp only [List.map_nil, RepC]
  | v :: vs, off, h => by
    simp only [List.map_cons, RepC]
    refine ⟨⟨v, h 0 v rfl, rfl⟩, repC_of vs (off + 1) fun i u hu => ?_⟩
    have := h (i + 1) u hu
    rw [show off + 1 + i = off + (i + 1) by omega]; exact this
theorem repE_of {α : Type} {enc : α → List Value} {w : World} {F : Nat → Prop} {b k : Nat} (hF : F b) (hk : ∀ x, (enc x).length = k) : ∀ (xs : List α) (off : Nat), (∀ j p, xs[j]? = some p → ∀ i u, (enc p)[i]? = some u → w.cell? ⟨b, off + (j * k + i), none⟩ = some u) → RepE w F (some ⟨b, off, none⟩) k xs.length (xs.map fun x => (enc x).map .s)
  | [], off, _ => by simp only [List.map_nil, RepE, List.length_nil]
  | x :: xs, off, h => by
    simp only [List.map_cons, RepE]
    refine ⟨b, off, xs.length, rfl, rfl, hF, by rw [List.length_map]; exact hk x, repC_of _ _ fun i u hu => ?_, repE_of hF hk xs (off + k) fun j p hp i u hu => ?_⟩
    · have := h 0 x rfl i u hu
      rw [Nat.zero_mul, Nat.zero_add] at this; exact this
    · have := h (j + 1) p hp i u hu
      rw [Nat.succ_mul] at this
      rw [show off + k + (j * k + i) = off + (j * k + k + i) by omega]; exact this
theorem add_mk (b o j : Nat) : (⟨b, o, none⟩ : Addr).add j = ⟨b, o + j, none⟩ := by unfold Addr.add; split <;> simp_all
/-- A row of structs that is read, as a walk sees it. -/
theorem rep_row {α : Type} {d : Kd α} {enc : α → List Value} {w : World} {F : Nat → Prop} {A : Option Addr} {xs : List α} {cap : Nat} (hk : ∀ x, (enc x).length = d.sz) (hp : 0 < d.sz) (hK : ∀ x cs, d.K w x cs → cs = enc x) (h : Kd.C d w A xs.length xs) (hc : xs.length ≤ cap)
    (hF : ∀ b off x, x ∈ xs → (∀ i u, (enc x)[i]? = some u → w.cell? ⟨b, off + i, none⟩ = some u) → F b) : Rep w F (.vs d.sz (xs.map fun x => (enc x).map .s)) (.slice A xs.length cap) := by
  simp only [Rep]
  refine ⟨A, xs.length, cap, rfl, hc, ?_⟩
  cases xs with
  | nil => simp only [List.map_nil, RepE, List.length_nil]
  | cons y ys =>
    obtain ⟨_, _, h⟩ := h
    obtain ⟨ad, rfl, hall⟩ := h (by simp)
    have hcell : ∀ j p, (y :: ys)[j]? = some p → ∀ i u, (enc p)[i]? = some u → w.cell? (ad.add (j * d.sz + i)) = some u := fun j p hp i u hu => by
      obtain ⟨c, _, hR, hcc⟩ := hall j p hp
      rw [hK p c hR] at hcc
      exact hcc i u hu
    have hsp : ad.spot = none := by
      have h0 : (enc y)[0]? = some ((enc y)[0]'(by rw [hk]; exact hp)) := List.getElem?_eq_getElem _
      have : w.cell? ad = some ((enc y)[0]'(by rw [hk]; exact hp)) := by have := hcell 0 y rfl 0 _ h0; rw [Nat.zero_mul, Nat.zero_add] at this; simpa only [Addr.add, if_true] using this
      unfold World.cell? at this
      split at this
      · cases e : ad.spot with
        | none => rfl
        | some z => rw [e] at this; simp at this
      · cases this
    obtain ⟨b, off, sp⟩ := ad
    simp only [] at hsp
    subst hsp
    exact repE_of (hF b off y (by simp) fun i u hu => by have := hcell 0 y rfl i u hu; rw [Nat.zero_mul, Nat.zero_add, add_mk] at this; exact this) hk (y :: ys) off fun j p hp i u hu => by rw [← add_mk]; exact hcell j p hp i u hu
/-- A cell of a variable of numbers holds such a number. -/
theorem only_int {P : Program} {w : World} (h : w.ShapedOpen P) {g : Nat} {t : TypeId} (hg : g < P.globals.size) (h0 : (((begin P (fun _ _ => 0) default).world.heap[g]?).bind Obj.row?).map (·.2) = some t) (hb : P.buildable t = true)
    {k : IntKind} {e : TypeId} {n : Nat} (hc : P.cellTypes P.depth t = some (List.replicate n e)) (hu : P.underlying e = some (.int k)) (off : Nat) {v : Value} (hcell : w.cell? ⟨g, off, none⟩ = some v) : ∃ x, v = .int k x := by
  cases hz : ((begin P (fun _ _ => 0) default).world.heap[g]?).bind Obj.row? with
  | none => rw [hz] at h0; cases h0
  | some zt =>
    obtain ⟨zero, t'⟩ := zt
    rw [hz] at h0; obtain rfl : t' = t := by simpa using h0
    obtain ⟨cs, hh, _, hr⟩ := h.1 g zero _ hg hz
    obtain ⟨ts, hts, _, hall⟩ := hr hb
    rw [hc] at hts; cases hts
    simp only [World.cell?, hh] at hcell
    obtain ⟨u, hu', hok⟩ := hall off _ hcell
    have : u = e := List.eq_of_mem_replicate (List.mem_of_getElem? hu')
    subst this
    unfold Cell.ok at hok
    rw [hu] at hok
    cases v <;> simp at hok
    obtain ⟨rfl, _⟩ := hok
    exact ⟨_, rfl⟩
theorem only3 {w : World} (hsh : w.ShapedOpen Tryd.prog) : ∀ b, b < 3 → ∀ off v, w.cell? ⟨b, off, none⟩ = some v → ∃ k x, v = .int k x ∧ (k = .i64 ∨ k = .u8) := by
  intro b hb off v h
  match b, hb with
  | 0, _ => obtain ⟨x, e⟩ := only_int hsh (of_decide_eq_true (by kernel_rfl)) (t := 3) (by kernel_rfl) (by kernel_rfl) (n := 1) (e := 3) (by kernel_rfl) Tryd.underlying3 off h; exact ⟨_, x, e, .inl rfl⟩
  | 1, _ => obtain ⟨x, e⟩ := only_int hsh (of_decide_eq_true (by kernel_rfl)) (t := 121) (by kernel_rfl) (by kernel_rfl) (n := 256) (e := 5) (by kernel_rfl) Tryd.underlying5 off h; exact ⟨_, x, e, .inr rfl⟩
  | 2, _ => obtain ⟨x, e⟩ := only_int hsh (of_decide_eq_true (by kernel_rfl)) (t := 124) (by kernel_rfl) (by kernel_rfl) (n := 32) (e := 5) (by kernel_rfl) Tryd.underlying5 off h; exact ⟨_, x, e, .inr rfl⟩
theorem AC.calls {P : Program} {g : FuncId} {fn : Func} {args : List TV} {H : Heap} {C : TV → Heap → Prop} (h : AC P g args H C) (hf : P.funcs[g]? = some fn) (hb : fn.body.isNone = false) (hname : (fn.name == "runtime.NumGoroutine") = false)
    {argv : List Value} {w : World} (ha : RepL w (Fr H w) args argv) (hh : HRel H w) : Calls P g argv.toArray w fun e w' => ∃ v, e = .returned v ∧ After C H w v w' := by
  rcases h argv w ha hh with h | ⟨v, w', h, _⟩
  · exact h.2
  · have : (callFunc g argv.toArray).run P w = .ok (.enter g argv.toArray) w := by
      unfold callFunc
      rw [run_ok (w' := w) (a := P) rfl]
      simp only [hf, hname, Bool.false_eq_true, if_false, hb]; rfl
    rw [this] at h; cases h
/-- A law that always tells true, in the kit's own words. -/
theorem AC.law {P : Program} {g : FuncId} {fn : Func} {args : List TV} {w : World} {n : Nat} (h : AC P g args (heldAs w n) (fun r H' => r = .s (.bool true) ∧ H' = heldAs w n)) (hf : P.funcs[g]? = some fn) (hb : fn.body.isNone = false) (hname : (fn.name == "runtime.NumGoroutine") = false)
    {argv : List Value} (ha : RepL w (Fr (heldAs w n) w) args argv) : Calls P g argv.toArray w fun e w' => e = .returned (.bool true) ∧ Below w.heap.size w w' := by
  refine (h.calls hf hb hname ha (heldAs_rel w n)).mono fun e w' ⟨v, he, r, H', ⟨hr, hH⟩, hv, hrel, hext⟩ => ?_
  subst he hr hH
  simp only [Rep] at hv
  subst hv
  exact ⟨rfl, below_of hext hrel⟩
theorem fr3 {w : World} (hsh : w.ShapedOpen Tryd.prog) {b off : Nat} {v : Value} (h : w.cell? ⟨b, off, none⟩ = some v) (hv : ∀ k x, v = .int k x → k ≠ .i64 ∧ k ≠ .u8) : Fr (heldAs w 3) w b := by
  refine ⟨cell_lt' h, heldAs_none ?_⟩
  rcases Nat.lt_or_ge b 3 with g | g
  · obtain ⟨k, x, e, hk⟩ := only3 hsh b g off v h
    have := hv k x e
    rcases hk with hk | hk
    · exact absurd hk this.1
    · exact absurd hk this.2
  · exact g
theorem row_s {w : World} {A : Option Addr} {l : List ByteArray} {c : Nat} (hr : Kd.C Kd.string w A l.length l) (hc : l.length ≤ c) (hsh : w.ShapedOpen Tryd.prog) : Rep w (Fr (heldAs w 3) w) (.vs 1 (l.map s1)) (.slice A l.length c) :=
  rep_row (d := Kd.string) (enc := fun x => [.string x]) (fun x => rfl) (by decide) (fun x cs h => h) hr hc fun b off x hx hcell => fr3 hsh (off := off + 0) (hcell 0 _ rfl) (fun k y e => by cases e)
theorem row_u {w : World} {A : Option Addr} {l : List Int} {c : Nat} (hr : Kd.C (Kd.int .u32) w A l.length l) (hc : l.length ≤ c) (hsh : w.ShapedOpen Tryd.prog) (hg : ∀ y ∈ l, (Lit.int .u32 y).wf = true) : Rep w (Fr (heldAs w 3) w) (.vs 1 ((l.map Int.toNat).map u1)) (.slice A l.length c) := by
  have h := rep_row (d := Kd.int .u32) (enc := fun x => [.int .u32 x]) (fun x => rfl) (by decide) (fun x cs h => h) hr hc (F := Fr (heldAs w 3) w) fun b off x hx hcell => fr3 hsh (off := off + 0) (hcell 0 _ rfl) (fun k y e => by cases e; exact ⟨by decide, by decide⟩)
  have e : (l.map fun x => [Value.int .u32 x].map TV.s) = (l.map Int.toNat).map u1 := by
    rw [List.map_map]
    refine List.map_congr_left fun x hx => ?_
    have := (Op.r32 (hg x hx)).1
    simp only [Function.comp_def, u1, List.map_cons, List.map_nil]
    rw [Int.toNat_of_nonneg this]
  rw [e] at h
  exact h
open Go.Proofs.YtephimncnnogfaaDoor.P
section
end
end Go.Abs
/- What an argument's reading tells: a value as a walk sees it. -/
namespace Go.Abs
set_option linter.unusedSimpArgs false
set_option linter.unusedVariables false
open Go.RowKit Go.Lib Go.Proofs.YtephimncnnogfaaDoorW.PrintWords
open Go.Proofs Go.RowKit Go.Proofs.YtephimncnnogfaaDoor Go.Proofs.YtephimncnnogfaaDoorW.PrintWords
set_option linter.unusedVariables false
/-- What readings are of: how much there may be of it, which texts there may be. -/
structure Cx (H : Type) where
  enc : TypeId × Value → H
  P : Program
  w : World
  F : Nat → Prop
  B : DataW H → Nat
  BA : List (DataW H) → Nat
  M : Nat
  L : Nat
  mem : ∀ d l, d ∈ l → B d ≤ BA l
  sl : ∀ es sp, BA es ≤ B (.slice es sp)
  ag : ∀ ps, BA ps ≤ B (.agg ps)
  st : ∀ s : ByteArray, B (.lit (.string s.data.toList)) ≤ M → s.size ≤ maxLen → s.size ≤ L
section
variable {H : Type} {X : Cx H} {α β : Type}
def Reads (X : Cx H) (t : TypeId) (enc : α → List TV) (good : α → Prop) : Prop :=
  ∀ n cs y, DataW.trod X.enc X.P X.w 0 (fun _ => true) true n t cs = some y → X.B y.1 ≤ X.M → ∃ a, RepL X.w X.F (enc a) cs ∧ good a
theorem rdInt {t : TypeId} {k : IntKind} (ht : X.P.underlying t = some (.int k)) : Reads X t (fun n : Int => [.s (.int k n)]) (fun n => (Lit.int k n).wf = true) := fun n cs y h _ => by
  obtain ⟨a, rfl, _, hw⟩ := DataW.trod_int ht h
  exact ⟨a, ⟨_, _, rfl, by simp only [Rep], rfl⟩, hw⟩
theorem rdBool {t : TypeId} (ht : X.P.underlying t = some .bool) : Reads X t (fun b : Bool => [.s (.bool b)]) (fun _ => True) := fun n cs y h _ => by
  obtain ⟨a, rfl, _⟩ := DataW.trod_bool ht h
  exact ⟨a, ⟨_, _, rfl, by simp only [Rep], rfl⟩, trivial⟩
theorem rdStr {t : TypeId} (ht : X.P.underlying t = some .string) : Reads X t (fun s : ByteArray => [.s (.string s)]) (fun s => s.size ≤ X.L) := fun n cs y h hb => by
  obtain ⟨a, rfl, hx, hs⟩ := DataW.trod_string ht h
  exact ⟨a, ⟨_, _, rfl, by simp only [Rep], rfl⟩, X.st a (by rw [hx] at hb; exact hb) hs⟩
theorem repC_of_rep {w : World} {F : Nat → Prop} {b : Nat} : ∀ {ts : List TV} {cs : List Value} (off : Nat), RepL w F ts cs → (∀ i u, cs[i]? = some u → w.cell? ⟨b, off + i, none⟩ = some u) → RepC w F b off ts
  | [], cs, off, h, hc => by simp only [RepC]
  | t :: ts, cs, off, h, hc => by
    simp only [RepL] at h
    obtain ⟨y, ys, rfl, h1, h2⟩ := h
    simp only [RepC]
    exact ⟨⟨y, hc 0 y rfl, h1⟩, repC_of_rep (off + 1) h2 fun i u hi => by rw [show off + 1 + i = off + (i + 1) by omega]; exact hc (i + 1) u hi⟩
/-- A row. -/
theorem rdSlice {t e : TypeId} {k : Nat} {enc : α → List TV} {good : α → Prop} (ht : X.P.underlying t = some (.slice e)) (hsz : X.P.cellsOf e = k) (hk : 0 < k) (hlen : ∀ a, (enc a).length = k) (hel : Reads X e enc good)
    (hF : ∀ a b off cs, good a → RepL X.w X.F (enc a) cs → (∀ i u, cs[i]? = some u → X.w.cell? ⟨b, off + i, none⟩ = some u) → X.F b) : Reads X t (fun l : List α => [.vs k (l.map enc)]) (fun l => (l.length : Nat) ≤ maxLen ∧ ∀ a ∈ l, good a) := fun n cs y h hb => by
  rcases Go.Deep.open_slice ht h with ⟨rfl, _⟩ | ⟨a, ln, cap, m, n', D, Pl, rfl, _, hl, hm, hmm, hxe, hx⟩
  · refine ⟨[], ⟨_, _, rfl, ?_, rfl⟩, by simp [maxLen], fun a ha => (List.not_mem_nil ha).elim⟩
    simp only [Rep, List.map_nil, RepE]
    exact ⟨none, 0, 0, rfl, Nat.le_refl _, rfl⟩
  · have hle : ln ≤ m := by rw [hmm]; split <;> omega
    have h1 : ∀ i, i < ln → ∃ c : α, good c ∧ ∃ cs' : List Value, RepL X.w X.F (enc c) cs' ∧ ∀ j u, cs'[j]? = some u → X.w.cell? ((a.add (i * k)).add j) = some u := fun i hi => by
      obtain ⟨cs', hc, ht'⟩ := hx i (by omega)
      have hbd : X.B (D i) ≤ X.M := by
        have h1 := X.mem (D i) ((List.range ln).map D) (List.mem_map.2 ⟨i, List.mem_range.2 hi, rfl⟩)
        have h2 := X.sl ((List.range ln).map D) ((List.range (m - ln)).map fun j => D (ln + j))
        rw [hxe] at hb
        simp only [] at hb
        omega
      obtain ⟨c, hr, hg⟩ := hel n' cs' _ ht' hbd
      obtain ⟨_, hlen', hcell⟩ := World.cells?_some hc
      refine ⟨c, hg, cs', hr, fun j u hu => ?_⟩
      have hj : j < X.P.cellsOf e := by rw [← hlen']; exact (List.getElem?_eq_some_iff.1 hu).1
      rw [hsz] at hj hcell
      rw [hcell j hj]; exact hu
    have hlenR : ∀ {ts : List TV} {cs : List Value}, RepL X.w X.F ts cs → cs.length = ts.length := by
      intro ts
      induction ts with
      | nil => intro cs h; simp only [RepL] at h; rw [h]; rfl
      | cons t ts ih => intro cs h; simp only [RepL] at h; obtain ⟨y, ys, rfl, _, h2⟩ := h; simp [ih h2]
    have hsp : 0 < ln → a.spot = none := fun h0 => by
      obtain ⟨c, _, cs', hr, hc⟩ := h1 0 h0
      have hl0 := hlenR hr
      rw [hlen] at hl0
      have h00 : cs'[0]? = some (cs'[0]'(by omega)) := List.getElem?_eq_getElem _
      have := hc 0 _ h00
      rw [Nat.zero_mul] at this
      simp only [Addr.add, if_true] at this
      unfold World.cell? at this
      split at this
      · cases e : a.spot with
        | none => rfl
        | some z => rw [e] at this; simp at this
      · cases this
    have key : ∀ q i, i + q = ln → ∃ l : List α, l.length = q ∧ (∀ c ∈ l, good c) ∧ RepE X.w X.F (some (a.add (i * k))) k q (l.map enc) := by
      intro q
      induction q with
      | zero => intro i _; exact ⟨[], rfl, fun c hc => (List.not_mem_nil hc).elim, by simp only [List.map_nil, RepE]⟩
      | succ q ih =>
        intro i hi
        obtain ⟨l, hl1, hl2, hl3⟩ := ih (i + 1) (by omega)
        obtain ⟨c, hg, cs', hr, hc⟩ := h1 i (by omega)
        have hs := hsp (by omega)
        have hadd : ∀ j, a.add j = ⟨a.block, a.off + j, none⟩ := fun j => by obtain ⟨b, o, s⟩ := a; simp only at hs; subst hs; exact add_mk b o j
        have hc' : ∀ j u, cs'[j]? = some u → X.w.cell? ⟨a.block, a.off + i * k + j, none⟩ = some u := fun j u hu => by
          have := hc j u hu
          rw [hadd, add_mk] at this; exact this
        refine ⟨c :: l, by simp [hl1], fun x hx => ?_, ?_⟩
        · rcases List.mem_cons.1 hx with rfl | hx
          · exact hg
          · exact hl2 x hx
        · simp only [List.map_cons, RepE]
          refine ⟨a.block, a.off + i * k, q, by rw [hadd], rfl, hF c a.block _ cs' hg hr hc', hlen c, repC_of_rep _ hr hc', ?_⟩
          have e : (⟨a.block, a.off + i * k + k, none⟩ : Addr) = a.add ((i + 1) * k) := by rw [hadd, Nat.succ_mul, Nat.add_assoc]
          rw [e]; exact hl3
    obtain ⟨l, hl1, hl2, hl3⟩ := key ln 0 (by omega)
    have e0 : a.add (0 * k) = a := by rw [Nat.zero_mul]; simp only [Addr.add, if_true]
    rw [e0] at hl3
    refine ⟨l, ⟨_, _, rfl, ?_, rfl⟩, by rw [hl1]; exact Nat.le_trans hl hm, hl2⟩
    simp only [Rep]
    exact ⟨some a, ln, cap, rfl, hl, hl3⟩
/-- Fields of a struct, from one on. -/
def ReadsF (X : Cx H) (fs : Array Field) (i off tot : Nat) (enc : α → List TV) (good : α → Prop) : Prop :=
  ∀ (n : Nat) (xs : List (DataW H × List MemPlace)) (cs : List Value), cs.length = tot → xs.length = fs.size → (∀ (j : Nat) (f : Field), fs[j]? = some f → DataW.trod X.enc X.P X.w 0 (fun _ => true) true n f.type ((cs.drop f.offset).take (X.P.cellsOf f.type)) = xs[j]?) →
    (∀ x ∈ xs, X.B x.1 ≤ X.M) → ∃ a, RepL X.w X.F (enc a) (cs.drop off) ∧ good a
theorem rdEnd {fs : Array Field} {i tot : Nat} : ReadsF X fs i tot tot (fun _ : Unit => []) (fun _ => True) := fun n xs cs hc hx h hb =>
  ⟨(), by simp only [RepL]; exact List.drop_of_length_le (by omega), trivial⟩
theorem rdCons {fs : Array Field} {i off off' tot c : Nat} {f : Field} {enc1 : α → List TV} {good1 : α → Prop} {enc2 : β → List TV} {good2 : β → Prop} (hf : fs[i]? = some f) (ho : f.offset = off) (hc : X.P.cellsOf f.type = c) (ho' : off + c = off')
    (h1 : Reads X f.type enc1 good1) (h2 : ReadsF X fs (i + 1) off' tot enc2 good2) : ReadsF X fs i off tot (fun p : α × β => enc1 p.1 ++ enc2 p.2) (fun p => good1 p.1 ∧ good2 p.2) := fun n xs cs hcs hx h hb => by
  have hi : i < fs.size := (Array.getElem?_eq_some_iff.1 hf).1
  have hg := h i f hf
  rw [List.getElem?_eq_getElem (by omega), hc, ho] at hg
  obtain ⟨a, ha, ga⟩ := h1 n _ _ hg (hb _ (List.getElem_mem _))
  obtain ⟨b, hb2, gb⟩ := h2 n xs cs hcs hx h hb
  refine ⟨(a, b), ?_, ga, gb⟩
  have e : cs.drop off = (cs.drop off).take c ++ cs.drop off' := by rw [← ho', ← List.drop_drop, List.take_append_drop]
  rw [e]
  exact repL_append ha hb2
theorem rdStruct {t : TypeId} {fs : Array Field} {tot : Nat} {enc : α → List TV} {good : α → Prop} (ht : X.P.underlying t = some (.struct fs)) (hc : X.P.cellsOf t = tot) (h : ReadsF X fs 0 0 tot enc good) : Reads X t enc good := fun n cs y hy hb => by
  obtain ⟨xs, n', _, hxe, hcs, hl, hx⟩ := DataW.trod_struct ht hy
  obtain ⟨a, ha, ga⟩ := h n' xs cs (hcs.trans hc) hl hx fun x hx' => by
    have h1 := X.mem x.1 (xs.map (·.1)) (List.mem_map.2 ⟨x, hx', rfl⟩)
    have h2 := X.ag (xs.map (·.1))
    rw [hxe] at hb
    simp only [] at hb
    omega
  exact ⟨a, by simpa using ha, ga⟩
theorem Reads.map {t : TypeId} {enc : α → List TV} {good : α → Prop} (h : Reads X t enc good) (g : α → β) {enc' : β → List TV} {good' : β → Prop} (he : ∀ a, good a → enc' (g a) = enc a) (hg : ∀ a, good a → good' (g a)) : Reads X t enc' good' := fun n cs y hy hb =>
  let ⟨a, ha, ga⟩ := h n cs y hy hb
  ⟨g a, by rw [he a ga]; exact ha, hg a ga⟩
end
/-- What is no library's table: a cell that is neither an int nor a byte. -/
theorem fr_cell {w : World} (hsh : w.ShapedOpen Tryd.prog) {ts : List TV} {b off : Nat} {cs : List Value} (hr : RepL w (Fr (heldAs w 3) w) ts cs) (hc : ∀ i u, cs[i]? = some u → w.cell? ⟨b, off + i, none⟩ = some u)
    (i : Nat) {t : TV} (ht : ts[i]? = some t) (hv : ∀ v, Rep w (Fr (heldAs w 3) w) t v → ∀ k x, v = .int k x → k ≠ .i64 ∧ k ≠ .u8) : Fr (heldAs w 3) w b := by
  have : ∃ v, cs[i]? = some v ∧ Rep w (Fr (heldAs w 3) w) t v := by
    clear hc hv
    induction ts generalizing cs i with
    | nil => cases ht
    | cons t' ts ih =>
      simp only [RepL] at hr
      obtain ⟨y, ys, rfl, h1, h2⟩ := hr
      cases i with
      | zero => simp at ht; subst ht; exact ⟨y, rfl, h1⟩
      | succ i => exact ih h2 i (by simpa using ht)
  obtain ⟨v, h1, h2⟩ := this
  exact fr3 hsh (hc i v h1) (hv v h2)
theorem no_str {w : World} {F : Nat → Prop} {s : ByteArray} : ∀ v, Rep w F (.s (.string s)) v → ∀ k x, v = .int k x → k ≠ .i64 ∧ k ≠ .u8 := fun v h k x e => by simp only [Rep] at h; subst h; cases e
theorem rdStrs {H : Type} {X : Cx H} (hsh : X.w.ShapedOpen Tryd.prog) (hF : X.F = Fr (heldAs X.w 3) X.w) {t e : TypeId} (ht : X.P.underlying t = some (.slice e)) (he : X.P.underlying e = some .string) (hsz : X.P.cellsOf e = 1) : Reads X t (fun l : List ByteArray => [.vs 1 (l.map s1)]) (fun l => l.length ≤ maxLen ∧ ∀ s ∈ l, s.size ≤ X.L) :=
  rdSlice ht hsz (by decide) (fun _ => rfl) (rdStr he) fun a b off cs _ hr hc => by
    rw [hF] at hr ⊢
    exact fr_cell hsh hr hc 0 rfl no_str
theorem rdNames {H : Type} {X : Cx H} (hP : X.P = Tryd.prog) (hsh : X.w.ShapedOpen Tryd.prog) (hF : X.F = Fr (heldAs X.w 3) X.w) : Reads X 22 (fun l : List ByteArray => [.vs 1 (l.map s1)]) (fun l => l.length ≤ maxLen ∧ ∀ s ∈ l, s.size ≤ X.L) :=
  rdStrs hsh hF (by rw [hP]; exact Tryd.underlying22) (by rw [hP]; exact Tryd.underlying9) (by rw [hP]; kernel_rfl)
end Go.Abs
/- The law SymtabSlots, as a row calls it. -/
namespace Go.Abs
set_option linter.unusedSimpArgs false
set_option linter.unusedVariables false
open Go.Proofs Go.RowKit Go.Lib Go.Proofs.YtephimncnnogfaaDoor Go.Proofs.YtephimncnnogfaaDoorW.PrintWords
set_option linter.unusedVariables false
set_option linter.unusedSectionVars false
theorem no_vs {w : World} {F : Nat → Prop} {k : Nat} {L : List (List TV)} : ∀ v, Rep w F (.vs k L) v → ∀ k x, v = .int k x → k ≠ .i64 ∧ k ≠ .u8 := fun v h k x e => by
  simp only [Rep] at h
  obtain ⟨_, _, _, rfl, _⟩ := h
  cases e
theorem rdExps {H : Type} {X : Cx H} (hP : X.P = Tryd.prog) (hsh : X.w.ShapedOpen Tryd.prog) (hF : X.F = Fr (heldAs X.w 3) X.w) : Reads X 23 (fun l : List (List ByteArray) => [.vs 1 (l.map sl1)]) (fun l => l.length ≤ maxLen ∧ ∀ x ∈ l, x.length ≤ maxLen ∧ ∀ s ∈ x, s.size ≤ X.L) := by
  refine rdSlice (e := 22) (by rw [hP]; exact Tryd.underlying23) (by rw [hP]; kernel_rfl) (by decide) (fun _ => rfl) (rdNames hP hsh hF) ?_
  intro a b off cs _ hr hc
  rw [hF] at hr ⊢
  exact fr_cell hsh hr hc 0 rfl no_vs
theorem slots_calls {w : World} (hG : Glob w) {ms : List ByteArray} {xs : List (List ByteArray)} {v0 v1 : Value} (h0 : RepL w (Fr (heldAs w 3) w) [.vs 1 (ms.map s1)] [v0]) (g0 : ms.length ≤ maxLen ∧ ∀ s ∈ ms, s.size ≤ maxLen) (h1 : RepL w (Fr (heldAs w 3) w) [.vs 1 (xs.map sl1)] [v1]) (g1 : xs.length ≤ maxLen ∧ ∀ x ∈ xs, x.length ≤ maxLen ∧ ∀ s ∈ x, s.size ≤ maxLen) :
    Calls Tryd.prog 3 #[v0, v1] w fun e w' => e = .returned (.bool true) ∧ Below w.heap.size w w' :=
  have hm : ∀ s : ByteArray, s.size ≤ maxLen → fits s := fun s h => by unfold maxLen at h; unfold fits; omega
  AC.law (argv := [_, _]) (slots_c (glob_held hG) (Sub.refl _) ms xs (fun s h => hm s (g0.2 s h)) (fun l hl s h => hm s ((g1.2 l hl).2 s h))) Tryd.func3 rfl rfl (repL_append h0 h1)
end Go.Abs
