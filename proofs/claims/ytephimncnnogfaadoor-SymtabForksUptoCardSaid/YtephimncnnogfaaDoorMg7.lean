import Derived.Test.YtephimncnnogfaaDoorMg6
import Derived.Test.YtephimncnnogfaaDoorMg2
import Derived.Test.YtephimncnnogfaaDoorProg
import Derived.Lib.LaidU8
import Derived.Test.YtephimncnnogfaaDoorV
import Derived.Test.YtephimncnnogfaaDoorOp
import Derived.Deep.Slices
import Derived.Shelf.SlMaps.Clone
/- The law SymtabSums. -/
namespace Go.Abs
set_option linter.unusedSimpArgs false
set_option linter.unusedVariables false
set_option maxHeartbeats 4000000
open Go.Proofs Go.Nm Go.Wd
set_option linter.unusedVariables false
set_option linter.unusedSectionVars false
set_option maxRecDepth 8000
variable {H : Heap}
def B0 : Both13 := ⟨⟨[], []⟩, ⟨[], []⟩⟩
def RSym.cs (R : RSym) : Root := .cells [.vs 1 (R.mods.map s1), .vs 5 (R.l.map Ent.enc)]
theorem RSym.cs_def (R : RSym) : R.cs = .cells [.vs 1 (R.mods.map s1), .vs 5 (R.l.map Ent.enc)] := rfl
set_option maxHeartbeats 4000000 in
theorem sums_c {G : Heap} (g : GH G) (hs : Sub G H) (l : List Act) (hok : ∀ a ∈ l, a.ok) :
    AC Tryd.prog 6 [.vs 4 (l.map Act.enc)] H (fun r H' => r = .s (.bool true) ∧ H' = H) := by
  refine AC.body Tryd.func6 rfl rfl (n := 116) (res := [.tmp 2]) rfl rfl (by simp) ?_
  simp only [ent]
  have F := fun H => fewA_c l H
  cases q : fewB l with
  | false =>
    have W := awakeS_c g hs
    rw [q] at F
    clear hok g hs
    (repeat' (first | refine wk ?_ | refine wk2 ?_ ?_ | with_reducible refine wkF fun _ _ _ => ?_ | with_reducible intro _ | refine Calling.eq (F _) ?_ | refine Calling.eq (W) ?_ | exact ag | fail))
    exact fin0
  | true =>
    obtain ⟨hl, hns⟩ := fewB_len q
    rw [q] at F
    replace g := later g
    replace hs := later hs
    replace hok := later hok
    replace hns := later hns
    clear q
    (repeat' (first | refine wk ?_ | refine wk2 ?_ ?_ | with_reducible refine wkF fun _ _ _ => ?_ | with_reducible intro _ | refine Calling.eq (F _) ?_ | exact ag | fail))
    refine Calling.by (newT_c H) ?_
    rintro _ _ ⟨t, mb, eb, HS, T, rfl, rfl⟩
    (repeat' (first | refine wk ?_ | refine wk2 ?_ ?_ | with_reducible refine wkF fun _ _ _ => ?_ | with_reducible intro _ | exact ag | fail))
    rename_i r hr hrn
    have hrS := T.gone hr
    have hsub := T.sub
    have T' := fun c => T.up ⟨_, hr⟩ (.cells c)
    refine ARun.recell r [.vs 1 [], .vs 5 []] (upd_self _ _ _) rfl (.cons conv_nils (.cons conv_nils .nil)) ?_
    rw [upd_upd]
    replace T := later T
    replace T' := later T'
    replace hsub := later hsub
    clear hr hrn F
    refine ARun.rounds (fun i : Nat => ⟨[(0, .vs 4 (l.map Act.enc)), (3, .s (.pointer (some ⟨t, 0, none⟩))), (4, .s (.pointer (some ⟨r, 0, none⟩))), (5, .s (.int .i64 i))], upd (HS (acts (l.take i) B0).S) r (.cells [.vs 1 ((acts (l.take i) B0).R.mods.map s1), .vs 5 ((acts (l.take i) B0).R.l.map Ent.enc)])⟩)
      (fun i => l.length - i) (fun i => i ≤ l.length) ?_ 0 (by omega) ?_
    · rintro i hi next
      have e0 : (0 : Int) ≤ i := by omega
      obtain ⟨tw, mi⟩ := acts_tw hok.go (B := B0) .nil .nil hi (by omega)
      by_cases hlt : i < l.length
      · have e1 : (i : Int) < l.length := by omega
        obtain ⟨x, hx⟩ := at_ hlt
        have hx2 := vget Act.enc hx
        rw [Act.enc_def x] at hx2
        have hw := w64s (i := i) (by omega)
        have nx := next.go (i + 1) (by omega) (by omega)
        rw [acts_snoc hx] at nx
        have D := fun c => do_c g.go hs.go (T'.go c) tw (by omega) (hok.go x (List.mem_of_getElem? hx)) (by have := hns.go x (List.mem_of_getElem? hx); omega)
        simp only [RSym.tv_def, Act.enc_def] at D
        replace nx := later nx
        clear next hx tw mi
        generalize acts (l.take i) B0 = B at *
        generalize x.S B.S = S' at *
        generalize x.R B.R = R' at *
        (repeat' (first | refine wk ?_ | refine wk2 ?_ ?_ | with_reducible refine wkF fun _ _ _ => ?_ | with_reducible intro _ | exact ag | fail))
        refine ARun.drawT mixed [0, 1, 2, 3, 4, 5] (.alt 6 [2, 3, 4] [7, 8, 9] (.alt 10 [9] [] .leaf .nil) .nil) (by kernel_rfl) (by rfl) ?_
        (repeat' (first | refine wk ?_ | refine wk2 ?_ ?_ | with_reducible refine wkF fun _ _ _ => ?_ | with_reducible intro _ | refine Calling.eq (D _) ?_ | exact ag | fail))
        exact ARun.weaken nx.go (leK (Sub.refl _))
      · have e1 : decide ((i : Int) < l.length) = false := by simp; omega
        obtain rfl : i = l.length := by omega
        clear next
        generalize acts (l.take l.length) B0 = B at *
        have hn : 0 + l.length ≤ 1000 := by omega
        have Q := fun c => (T'.go c).list g.go hs.go (S := B.S) (tw.sfit hn) tw.snames tw.sok
        replace Q := later Q
        (repeat' (first | refine wk ?_ | refine wk2 ?_ ?_ | with_reducible refine wkF fun _ _ _ => ?_ | with_reducible intro _ | exact ag | fail))
        refine Calling.by (Q.go _) ?_
        rintro _ _ ⟨L, hp, ho, rfl, rfl⟩
        obtain rfl := tw.list hp ho
        clear hp ho Q
        have hll : B.R.l.length ≤ 480 := by have := tw.ll; omega
        have W := awakeS_c g.go (H := upd (HS B.S) r (.cells [.vs 1 (B.R.mods.map s1), .vs 5 (B.R.l.map Ent.enc)])) ((hs.go.trans (hsub.go B.S)).trans (Sub.upd (Sub.refl _) (hrS _)))
        have HA := fun md => hasT_c ((T'.go [.vs 1 (B.R.mods.map s1), .vs 5 (B.R.l.map Ent.enc)]).tab B.S) md
        have RE := fun md => refsS_c ((T'.go [.vs 1 (B.R.mods.map s1), .vs 5 (B.R.l.map Ent.enc)]).tab B.S) (tw.sfit hn) md
        simp only [tw.tw.sum] at RE
        have hmods := tw.tw.mods
        have hS2 : Sub H (upd (HS B.S) r (.cells [.vs 1 (B.R.mods.map s1), .vs 5 (B.R.l.map Ent.enc)])) := Sub.upd (hsub.go B.S) ((hsub.go B.S).gone (hrS _))
        have hrf := tw.rf
        rw [hmods] at HA
        replace hmods := later hmods
        replace tw := later tw
        replace mi := later mi
        replace hrf := later hrf
        generalize hK : upd (HS B.S) r (.cells [.vs 1 (B.R.mods.map s1), .vs 5 (B.R.l.map Ent.enc)]) = K at *
        clear hK
        generalize B.R = R at *
        (repeat' (first | refine wk ?_ | refine wk2 ?_ ?_ | with_reducible refine wkF fun _ _ _ => ?_ | with_reducible intro _ | exact ag | fail))
        refine ARun.rounds (fun j : Nat => ⟨[(3, .s (.pointer (some ⟨t, 0, none⟩))), (6, .vs 5 (R.l.map Ent.enc)), (7, .s (.int .i64 j))], K⟩)
          (fun j => R.l.length - j) (fun j => j ≤ R.l.length) ?_ 0 (by omega) ?_
        · rintro j hj next
          have j0 : (0 : Int) ≤ j := by omega
          have jw := w64s (i := j) (by omega)
          by_cases hjl : j < R.l.length
          · have j1 : (j : Int) < R.l.length := by omega
            obtain ⟨x, hx1⟩ := at_ hjl
            have hx2 := vget Ent.enc hx1
            rw [Ent.enc_def x] at hx2
            have hm := List.mem_of_getElem? hx1
            obtain ⟨m1, m2⟩ := mi.go x hm
            obtain ⟨r1, r2⟩ := hrf.go x hm
            have hin : inB x.md R.mods = true := by unfold inB; simpa using m1
            have HA' := HA x.md
            rw [hin] at HA'
            have RE' := RE x.md
            have nx := next.go (j + 1) (by omega) (by omega)
            replace nx := later nx
            replace hx1 := later hx1
            replace m2 := later m2
            replace r1 := later r1
            replace r2 := later r2
            clear next m1 hin hm HA RE
            (repeat' (first | refine wk ?_ | refine wk2 ?_ ?_ | with_reducible refine wkF fun _ _ _ => ?_ | with_reducible intro _ | exact ag | fail))
            refine ARun.rounds (fun k : Nat => ⟨[(3, .s (.pointer (some ⟨t, 0, none⟩))), (6, .vs 5 (R.l.map Ent.enc)), (7, .s (.int .i64 j)), (8, .s (.int .i64 (sumR x.md (R.l.take k)))), (9, .s (.int .i64 ((((R.l.take k).filter (mdB x.md)).length : Nat) : Int))), (10, .s (.int .i64 k))], K⟩)
              (fun k => R.l.length - k) (fun k => k ≤ R.l.length) ?_ 0 (by omega) ?_
            · rintro k hk next
              have k0 : (0 : Int) ≤ k := by omega
              have kw := w64s (i := k) (by omega)
              by_cases hkl : k < R.l.length
              · have k1 : (k : Int) < R.l.length := by omega
                obtain ⟨y, hy1⟩ := at_ hkl
                have hy2 := vget Ent.enc hy1
                rw [Ent.enc_def y] at hy2
                have nk := next.go (k + 1) (by omega) (by omega)
                rw [sumR_snoc hy1, filter_snoc hy1] at nk
                obtain ⟨s1_, s2_⟩ := hrf.go y (List.mem_of_getElem? hy1)
                obtain ⟨u1, u2⟩ := sumR_le (md := x.md) (l := R.l.take k) fun e he => hrf.go e (List.mem_of_mem_take he)
                have u3 : (R.l.take k).length ≤ 480 := by rw [List.length_take]; omega
                have hcn : ((R.l.take k).filter (mdB x.md)).length ≤ 480 := Nat.le_trans (List.length_filter_le _ _) u3
                have cw := w64s (i := ((R.l.take k).filter (mdB x.md)).length) (by omega)
                have sw : IntKind.i64.wrap (sumR x.md (R.l.take k) + y.rf) = sumR x.md (R.l.take k) + y.rf := wi64 (by omega) (by omega)
                have he : (y.md.toList == x.md.toList) = mdB x.md y := rfl
                have hr0 : refE x.md y = if mdB x.md y then y.rf else 0 := by
                  unfold refE
                  by_cases e : y.md = x.md
                  · rw [if_pos e, if_pos (mdB_iff.2 e)]
                  · rw [if_neg e, if_neg (fun z => e (mdB_iff.1 z))]
                rw [hr0] at nk
                clear next hy1 u1 u2 u3 hcn s1_ s2_ hr0
                generalize sumR x.md (R.l.take k) = sm at *
                generalize (R.l.take k).filter (mdB x.md) = fl at *
                cases qe : mdB x.md y with
                | true =>
                  rw [qe] at he nk
                  simp only [if_true, List.length_append, List.length_cons, List.length_nil, Nat.zero_add] at nk
                  replace nk := later nk
                  clear qe
                  (repeat' (first | refine wk ?_ | refine wk2 ?_ ?_ | with_reducible refine wkF fun _ _ _ => ?_ | with_reducible intro _ | exact ag | fail))
                  refine ARun.drawT mixed [0, 1, 2, 3, 4, 5, 6, 7, 8, 9, 10] .leaf (by kernel_rfl) (by rfl) ?_
                  (repeat' (first | refine wk ?_ | refine wk2 ?_ ?_ | with_reducible refine wkF fun _ _ _ => ?_ | with_reducible intro _ | exact ag | fail))
                  exact ARun.weaken nk.go (leK (Sub.refl _))
                | false =>
                  rw [qe] at he nk
                  rw [if_neg (by decide), if_neg (by decide), Int.add_zero] at nk
                  replace nk := later nk
                  clear qe
                  (repeat' (first | refine wk ?_ | refine wk2 ?_ ?_ | with_reducible refine wkF fun _ _ _ => ?_ | with_reducible intro _ | exact ag | fail))
                  refine ARun.drawT mixed [0, 1, 2, 3, 4, 5, 6, 7, 8, 9, 10] .leaf (by kernel_rfl) (by rfl) ?_
                  (repeat' (first | refine wk ?_ | refine wk2 ?_ ?_ | with_reducible refine wkF fun _ _ _ => ?_ | with_reducible intro _ | exact ag | fail))
                  exact ARun.weaken nk.go (leK (Sub.refl _))
              · have k1 : decide ((k : Int) < R.l.length) = false := by simp; omega
                obtain rfl : k = R.l.length := by omega
                rw [List.take_length]
                clear next
                have d1 : decide ((((R.l.filter (mdB x.md)).length : Nat) : Int) ≤ x.ix) = false := by have := m2.go; simp; omega
                have d2 : decide (x.rf < 0) = false := by have := r1.go; simp; omega
                have d3 : decide (8 < x.rf) = false := by have := r2.go; simp; omega
                generalize sumR x.md R.l = sm at *
                generalize R.l.filter (mdB x.md) = fl at *
                (repeat' (first | refine wk ?_ | refine wk2 ?_ ?_ | with_reducible refine wkF fun _ _ _ => ?_ | with_reducible intro _ | refine Calling.eq (HA') ?_ | refine Calling.eq (RE') ?_ | exact ag | fail))
                exact ARun.weaken nx.go (leK (Sub.refl _))
            · have z1 : sumR x.md (R.l.take 0) = 0 := rfl
              have z2 : ((((R.l.take 0).filter (mdB x.md)).length : Nat) : Int) = 0 := rfl
              simp only [z1, z2]
              exact leK (Sub.refl _)
          · have j1 : decide ((j : Int) < R.l.length) = false := by simp; omega
            clear next HA RE
            (repeat' (first | refine wk ?_ | refine wk2 ?_ ?_ | with_reducible refine wkF fun _ _ _ => ?_ | with_reducible intro _ | refine Calling.eq (W) ?_ | exact ag | fail))
            exact fin0
        · exact leK (Sub.refl _)
    · exact leK (Sub.refl _)
end Go.Abs
/- What modules export: are both tables the same? -/
namespace Go.Abs
set_option linter.unusedSimpArgs false
set_option linter.unusedVariables false
set_option maxHeartbeats 4000000
open Go.Proofs Go.Nm Go.Wd
set_option linter.unusedVariables false
set_option linter.unusedSectionVars false
set_option maxRecDepth 8000
variable {H : Heap}
theorem ent_drop0 {l : List Ent} {k : Nat} {x : Ent} (hx : l[k]? = some x) : ∃ B, ((l.map Ent.enc).flatten).drop (k * 5) = .s (.string x.nm) :: .s (.string x.md) :: .s (.int .i64 x.gt) :: .s (.int .i64 x.ix) :: .s (.int .i64 x.rf) :: B := by
  induction l generalizing k with
  | nil => cases hx
  | cons y l ih =>
    cases k with
    | zero => simp at hx; subst hx; exact ⟨(l.map Ent.enc).flatten, rfl⟩
    | succ k =>
      obtain ⟨B, h⟩ := ih (by simpa using hx)
      refine ⟨B, ?_⟩
      rw [List.map_cons, List.flatten_cons, show (k + 1) * 5 = y.enc.length + k * 5 by show _ = 5 + _; omega, ← List.drop_drop, List.drop_left]
      exact h
theorem SymAt.own {t mb eb : Nat} {S : Sym} (h : SymAt H t mb eb S) {b : Nat} {L : List (List TV)} (hb : L ≠ [] → H b = none) : SymAt (ownH H b L) t mb eb S :=
  ⟨ownH_keep hb h.tab, ownH_keep hb h.mod, ownH_keep hb h.ent⟩
set_option maxHeartbeats 4000000 in
theorem sameT_c13 {G : Heap} (g : GH G) (hs : Sub G H) {t mb eb : Nat} {HS : Sym → Heap} (T : STab H t mb eb HS) {S : Sym} {R : RSym} {n : Nat} (h : Tw S R n) (hn : n ≤ 900) (a : Act) (hl : a.names.length ≤ 1000) :
    AC Tryd.prog 16 [.s (.pointer (some ⟨t, 0, none⟩)), R.tv, .agg a.enc] (HS S) (fun r H' => r = .s (.bool true) ∧ H' = HS S) := by
  refine AC.body Tryd.func16 rfl rfl (n := 117) (res := [.tmp 6]) rfl rfl (by simp) ?_
  simp only [ent]
  have hn1 : n ≤ 1000 := by omega
  have hll : R.l.length ≤ 8000 := by have := h.ll; omega
  have hRf := h.fit hn1
  have RR := fun H => rrefs_c R hRf.ok (h.lfit hn1) a.nm H
  have RH := fun H => rhas_c R hRf.ok a.nm H
  have RF := fun s H => rfind_c R hRf.ok s H
  have eh : decide (0 ≤ fi (fun s : ByteArray => s.toList == a.nm.toList) R.mods) = R.has a.nm := rfl
  rw [eh, h.tw.has] at RH
  simp only [RSym.tv_def, Act.enc_def] at RR RH RF ⊢
  have hrf := h.rf
  replace hrf := later hrf
  clear eh hRf
  replace g := later g
  replace hs := later hs
  replace T := later T
  (repeat' (first | refine wk ?_ | refine wk2 ?_ ?_ | with_reducible refine wkF fun _ _ _ => ?_ | with_reducible intro _ | exact ag | fail))
  rename_i v hv hvn u hu hun
  have huv := hun v (by rw [upd_self]; rfl)
  have T2 := (T.go.up ⟨S, hv⟩ (.cells [.vs 1 (R.mods.map s1), .vs 5 (R.l.map Ent.enc)])).up ⟨S, hu⟩ (.cells [.s (.int .u8 a.k), .s (.string a.nm), .s (.int .i64 a.gt), .vs 1 (a.names.map s1)])
  have Q := listS_c g.go (hs.go.trans (T2.sub S)) (T2.tab S) T2.n2 (h.sfit hn1) h.snames h.sok
  have tab := T2.tab S
  have kv : upd (upd (HS S) v (.cells [.vs 1 (R.mods.map s1), .vs 5 (R.l.map Ent.enc)])) u (.cells [.s (.int .u8 a.k), .s (.string a.nm), .s (.int .i64 a.gt), .vs 1 (a.names.map s1)]) v = some (.cells [.vs 1 (R.mods.map s1), .vs 5 (R.l.map Ent.enc)]) := by rw [upd_eq, if_neg (by rw [huv.1]; exact id), upd_self]
  have ku : upd (upd (HS S) v (.cells [.vs 1 (R.mods.map s1), .vs 5 (R.l.map Ent.enc)])) u (.cells [.s (.int .u8 a.k), .s (.string a.nm), .s (.int .i64 a.gt), .vs 1 (a.names.map s1)]) u = some (.cells [.s (.int .u8 a.k), .s (.string a.nm), .s (.int .i64 a.gt), .vs 1 (a.names.map s1)]) := upd_self _ _ _
  have hsub : Sub (HS S) (upd (upd (HS S) v (.cells [.vs 1 (R.mods.map s1), .vs 5 (R.l.map Ent.enc)])) u (.cells [.s (.int .u8 a.k), .s (.string a.nm), .s (.int .i64 a.gt), .vs 1 (a.names.map s1)])) := Sub.upd (Sub.upd (Sub.refl _) hv) (nu1 hu)
  clear T2 hv hvn hu hun
  generalize upd (upd (HS S) v (.cells [.vs 1 (R.mods.map s1), .vs 5 (R.l.map Ent.enc)])) u (.cells [.s (.int .u8 a.k), .s (.string a.nm), .s (.int .i64 a.gt), .vs 1 (a.names.map s1)]) = K at *
  replace Q := later Q
  replace tab := later tab
  replace hsub := later hsub
  refine Calling.by Q.go ?_
  rintro _ _ ⟨b, L, hp, ho, hb, rfl, rfl⟩
  obtain rfl := h.list hp ho
  clear hp ho Q
  have hbK : ∀ M : List Ent, M.length = R.l.length → (M.map Ent.enc ≠ [] → K b = none) := fun M hM hq => hb (by
    intro e; apply hq
    have : M.length = 0 := by rw [hM, e]; rfl
    rw [List.length_eq_zero_iff.1 this]; rfl)
  have tabM := fun (M : List Ent) (hM : M.length = R.l.length) => tab.go.own (hbK M hM)
  have kvM := fun (M : List Ent) (hM : M.length = R.l.length) => ownH_keep (hbK M hM) kv
  have kuM := fun (M : List Ent) (hM : M.length = R.l.length) => ownH_keep (hbK M hM) ku
  have sbM := fun (M : List Ent) (hM : M.length = R.l.length) => hsub.go.trans (sub_ownK (Sub.refl K) (hbK M hM))
  have kv1 := kvM R.l rfl
  have ku1 := kuM R.l rfl
  have FR := refsS_c (tabM R.l rfl) (h.sfit hn1) a.nm
  rw [h.tw.sum] at FR
  have FH := hasT_c (tabM R.l rfl) a.nm
  have FF := fun (M : List Ent) (hM : M.length = R.l.length) s => find_s (tabM M hM) s
  have hget : ∀ s, getE s S.ents = R.get s := fun s => (h.tw.get s).symm
  simp only [hget] at FF
  replace hbK := later hbK
  replace kvM := later kvM
  replace kuM := later kuM
  replace sbM := later sbM
  replace FF := later FF
  replace h := later h
  clear hb tabM hget kv ku tab hsub
  generalize sumR a.nm R.l = sm at *
  generalize inB a.nm S.mods = bm at *
  (repeat' (first | refine wk ?_ | refine wk2 ?_ ?_ | with_reducible refine wkF fun _ _ _ => ?_ | with_reducible intro _ | exact ag | fail))
  refine ARun.drawT mixed [0, 1, 2, 3, 4, 5, 6, 7, 8, 9, 11, 12, 13] (.alt 10 [0, 1, 2, 3, 4, 5, 8, 11, 12, 13] [] (.alt 14 [0, 1, 2, 3, 4, 5, 7, 8, 9, 12] [15, 16, 17, 18, 19, 20, 22, 23, 24] (.alt 21 [0, 1, 2, 3, 4, 5, 6, 7, 8, 9, 11, 12, 13, 15, 16, 19, 22, 23, 24] [] (.alt 25 [0, 1, 2, 3, 4, 5, 6, 7, 8, 9, 11, 12, 13, 15, 16, 18, 19, 20, 23] [26, 27] .leaf .nil) .nil) .nil) .nil) (by kernel_rfl) (by rfl) ?_
  (repeat' (first | refine wk ?_ | refine wk2 ?_ ?_ | with_reducible refine wkF fun _ _ _ => ?_ | with_reducible intro _ | refine Calling.eq (FR) ?_ | refine Calling.eq (RR _) ?_ | refine Calling.eq (FH) ?_ | refine Calling.eq (RH _) ?_ | exact ag | fail))
  clear FR RR FH RH
  have SL := fun x H => slot_c x H
  have RS := fun x H => rslot_c x H
  refine ARun.rounds (fun st : Nat × List Ent => ⟨[(0, .s (.pointer (some ⟨t, 0, none⟩))), (4, .s (.pointer (some ⟨v, 0, none⟩))), (5, .s (.pointer (some ⟨u, 0, none⟩))), (7, ownT b 5 (st.2.map Ent.enc)), (8, .s (.int .i64 (st.1 : Nat)))], ownH K b (st.2.map Ent.enc)⟩) (fun st => R.l.length - st.1)
    (fun st => st.1 ≤ R.l.length ∧ st.2.length = R.l.length ∧ ∀ j, st.1 ≤ j → st.2[j]? = R.l[j]?) ?_ (0, R.l) ⟨by simp, rfl, fun _ _ => rfl⟩ ?_
  · rintro ⟨i, M⟩ ⟨hi, hM, hst⟩ next
    simp only [] at hi hM hst ⊢
    have kv2 := kvM.go M hM
    have ku2 := kuM.go M hM
    by_cases hlt : i < R.l.length
    · have e1 : (i : Int) < M.length := by omega
      have e2 : (0 : Int) ≤ i := by omega
      have e3 : (i : Int) < R.l.length := by omega
      obtain ⟨x, hx⟩ := at_ hlt
      have hxM : M[i]? = some x := by rw [hst i (Nat.le_refl _)]; exact hx
      have hx2 := vget Ent.enc hx
      rw [Ent.enc_def x] at hx2
      have SL' := SL x
      have RS' := RS x
      rw [Ent.enc_def x] at SL' RS'
      have ee := eqR13 x x
      rw [decide_eq_true rfl, Ent.enc_def x] at ee
      have hw := w64s (i := i) (by omega)
      obtain ⟨r1, r2⟩ := hrf.go x (List.mem_of_getElem? hx)
      have wr : IntKind.i64.wrap (x.rf + 1) = x.rf + 1 := wi64 (by omega) (by omega)
      obtain ⟨B, d4⟩ := ent_drop4 hxM
      obtain ⟨B2, d0⟩ := ent_drop0 hxM
      have s4 := ent_set4 hxM (x.rf + 1)
      have hl5 := ent_flat M
      have hb5 : i * 5 + 4 + 1 ≤ M.length * 5 := by omega
      have hb6 : i * 5 + 5 ≤ M.length * 5 := by omega
      have hne : M.map Ent.enc ≠ [] := by intro h; have : M = [] := by simpa using h
                                          rw [this] at hM; simp at hM; omega
      have hM2 : (M.set i ⟨x.nm, x.md, x.gt, x.ix, x.rf + 1⟩).length = R.l.length := by rw [List.length_set]; exact hM
      have hne' : (M.set i ⟨x.nm, x.md, x.gt, x.ix, x.rf + 1⟩).map Ent.enc ≠ [] := by intro h; apply hne; have := congrArg List.length h; simp at this; simp [this]
      have nx := next.go (i + 1, M.set i ⟨x.nm, x.md, x.gt, x.ix, x.rf + 1⟩) ⟨by simp only []; omega, hM2, fun j hj => by
        simp only [] at hj ⊢
        rw [List.getElem?_set, if_neg (by omega)]
        exact hst j (by omega)⟩ (by simp only []; omega)
      simp only [ownT_ne hne', ownH_ne' hne', List.length_map, List.length_set] at nx
      rw [ownT_ne hne, ownH_ne' hne, List.length_map]
      rw [ownH_ne' hne] at kv2 ku2
      replace nx := later nx
      replace hM := later hM
      clear next hst hx hxM r1 r2 hne hne' hM2 SL RS
      generalize M.set i ⟨x.nm, x.md, x.gt, x.ix, x.rf + 1⟩ = M2 at *
      (repeat' (first | refine wk ?_ | refine wk2 ?_ ?_ | with_reducible refine wkF fun _ _ _ => ?_ | with_reducible intro _ | exact ag | fail))
      refine ARun.drawT mixed [0, 1, 2, 3, 4, 5, 6, 7, 8, 9, 10, 11, 12, 13, 14, 16, 17, 18, 19, 20] (.alt 15 [0, 1, 2, 3, 4, 5, 6, 7, 8, 9, 11, 12, 13, 16, 17, 18, 19, 20] [] (.alt 21 [0, 1, 2, 3, 4, 5, 6, 7, 8, 9, 11, 12, 13, 14, 16, 17, 18, 19] [22, 23] .leaf .nil) .nil) (by kernel_rfl) (by rfl) ?_
      (repeat' (first | refine wk ?_ | refine wk2 ?_ ?_ | with_reducible refine wkF fun _ _ _ => ?_ | with_reducible intro _ | refine Calling.eq (SL' _) ?_ | refine Calling.eq (RS' _) ?_ | exact ag | fail))
      exact ARun.weaken nx.go (leK (Sub.refl _))
    · have e1 : decide ((i : Int) < M.length) = false := by simp; omega
      have e2 : decide ((i : Int) < (M.map Ent.enc).length) = false := by rw [List.length_map]; exact e1
      have FF' := FF.go M hM
      have sb2 := sbM.go M hM
      replace FF' := later FF'
      replace sb2 := later sb2
      replace hM := later hM
      clear next hst SL RS
      generalize hKM : ownH K b (M.map Ent.enc) = KM at *
      clear hKM
      (repeat' (first | refine wk ?_ | refine wk2 ?_ ?_ | with_reducible refine wkF fun _ _ _ => ?_ | with_reducible intro _ | exact ag | fail))
      refine ARun.rounds (fun j : Nat => ⟨[(0, .s (.pointer (some ⟨t, 0, none⟩))), (4, .s (.pointer (some ⟨v, 0, none⟩))), (5, .s (.pointer (some ⟨u, 0, none⟩))), (9, .s (.int .i64 j))], KM⟩)
        (fun j => a.names.length - j) (fun j => j ≤ a.names.length) ?_ 0 (by omega) ?_
      · rintro j hj next
        have j0 : (0 : Int) ≤ j := by omega
        by_cases hlt : j < a.names.length
        · have j1 : (j : Int) < a.names.length := by omega
          have jw := w64s (i := j) (by omega)
          obtain ⟨s, hs1⟩ := at_ hlt
          have hs2 := vget s1 hs1
          rw [s1_def s] at hs2
          have F1 := FF'.go s
          have F2 := RF s
          have nx := next.go (j + 1) (by omega) (by omega)
          replace nx := later nx
          generalize (R.get s).getD Ent.zero = y at *
          generalize (if (R.get s).isSome = true then (0 : Int) else 8) = f at *
          rw [Ent.enc_def y] at F1 F2
          have ee := eqR13 y y
          rw [decide_eq_true rfl, Ent.enc_def y] at ee
          clear next hs1 RF
          (repeat' (first | refine wk ?_ | refine wk2 ?_ ?_ | with_reducible refine wkF fun _ _ _ => ?_ | with_reducible intro _ | refine Calling.eq (F1) ?_ | exact ag | fail))
          rename_i x1 hx1 hx1n
          have kv3 : upd KM x1 (.cells [.s (.string y.nm), .s (.string y.md), .s (.int .i64 y.gt), .s (.int .i64 y.ix), .s (.int .i64 y.rf)]) v = some (.cells [.vs 1 (R.mods.map s1), .vs 5 (R.l.map Ent.enc)]) := by rw [upd_eq, if_neg (by rw [(hx1n v (by rw [kv2]; rfl)).1]; exact id)]; exact kv2
          have ku3 : upd KM x1 (.cells [.s (.string y.nm), .s (.string y.md), .s (.int .i64 y.gt), .s (.int .i64 y.ix), .s (.int .i64 y.rf)]) u = some (.cells [.s (.int .u8 a.k), .s (.string a.nm), .s (.int .i64 a.gt), .vs 1 (a.names.map s1)]) := by rw [upd_eq, if_neg (by rw [(hx1n u (by rw [ku2]; rfl)).1]; exact id)]; exact ku2
          refine ARun.drawT mixed [0, 1, 2, 3, 4, 5] (.alt 6 [1, 2, 3, 4] [7, 8, 9] (.alt 10 [0, 1, 2, 3, 4, 5, 7, 8, 9] [] (.alt 11 [9] [12] .leaf .nil) .nil) (.alt 10 [0, 1, 2, 3, 4, 5] [] (.alt 6 [1, 2, 3, 4] [7, 8, 9] (.alt 11 [9] [12] .leaf .nil) .nil) .nil)) (by kernel_rfl) (by rfl) ?_
          all_goals (repeat' (first | refine wk ?_ | refine wk2 ?_ ?_ | with_reducible refine wkF fun _ _ _ => ?_ | with_reducible intro _ | refine Calling.eq (F2 _) ?_ | exact ag | fail))
          all_goals exact ARun.weaken nx.go (leK (by exact sb))
        · have j1 : decide ((j : Int) < a.names.length) = false := by simp; omega
          clear next RF
          (repeat' (first | refine wk ?_ | refine wk2 ?_ ?_ | with_reducible refine wkF fun _ _ _ => ?_ | with_reducible intro _ | exact ag | fail))
          exact Fin.plain agr sb2.go ⟨rfl, rfl⟩
      · exact leK (Sub.refl _)
  · exact leK (Sub.refl _)
end Go.Abs
/- The law SymtabHolds. -/
namespace Go.Abs
set_option linter.unusedSimpArgs false
set_option linter.unusedVariables false
set_option maxHeartbeats 4000000
open Go.Proofs Go.Nm Go.Wd
set_option linter.unusedVariables false
set_option linter.unusedSectionVars false
set_option maxRecDepth 8000
variable {H : Heap}
theorem getE_in {k : ByteArray} {e : Ent} : ∀ {l : Ents}, getE k l = some e → (k, e) ∈ l
  | [], h => by cases h
  | (a, u) :: l, h => by
    simp only [getE] at h
    by_cases q : k = a
    · rw [if_pos q] at h; cases h; rw [q]; exact List.mem_cons_self ..
    · rw [if_neg q] at h; exact List.mem_cons_of_mem _ (getE_in h)
theorem refP_nn {s : ByteArray} {l : Ents} (h : ∀ p ∈ l, 0 ≤ p.2.rf) : 0 ≤ refP s l := by
  unfold refP
  cases e : getE s l with
  | none => exact Int.le_refl _
  | some x => exact h _ (getE_in e)
theorem cntP_up : ∀ (ns : List ByteArray) (ents : Ents), (∀ p ∈ ents, 0 ≤ p.2.rf) → (cntP 1 ns ents).1 = 0 ∨ (cntP 1 ns ents).1 = 25
  | [], _, _ => .inl rfl
  | s :: ns, ents, h => by
    have h' : ∀ p ∈ bumpP 1 s ents, 0 ≤ p.2.rf := fun p hp => by
      unfold bumpP at hp
      obtain ⟨x, hx, rfl⟩ := List.mem_map.1 hp
      have := h x hx
      split
      · show 0 ≤ x.2.rf + 1; omega
      · exact this
    have h2 := refP_nn (s := s) h'
    rw [cntP_cons]
    split
    · exact .inr rfl
    · rw [if_neg (by simp only [decide_eq_true_eq]; omega)]
      exact cntP_up ns _ h'
theorem hold_e {S : Sym} {R : RSym} {n : Nat} (h : Tw S R n) (names : List ByteArray) : S.cntE 1 names = 0 ∨ S.cntE 1 names = 8 ∨ S.cntE 1 names = 25 := by
  unfold Sym.cntE
  split
  · exact .inr (.inl rfl)
  · rcases cntP_up names S.ents (fun p hp => (h.rf p.2 (h.tw.perm.mem_iff.2 (List.mem_map.2 ⟨p, hp, rfl⟩))).1) with q | q
    · exact .inl q
    · exact .inr (.inr q)
set_option maxHeartbeats 4000000 in
theorem holds_c {G : Heap} (g : GH G) (hs : Sub G H) (l : List Act) (hok : ∀ a ∈ l, a.ok) (names : List ByteArray) (ha : ∀ s ∈ names, few s) :
    AC Tryd.prog 5 [.vs 4 (l.map Act.enc), .vs 1 (names.map s1)] H (fun r H' => r = .s (.bool true) ∧ H' = H) := by
  refine AC.body Tryd.func5 rfl rfl (n := 108) (res := [.tmp 4]) rfl rfl (by simp) ?_
  simp only [ent]
  have F := fun H => fewA_c l H
  have W := fun (K : Heap) (hq : Sub G K) => awakeS_c (H := K) g hq
  replace g := later g
  cases q : fewB l with
  | false =>
    rw [q] at F
    replace hs := later hs
    have W1 := W H hs.go
    clear hok ha W
    (repeat' (first | refine wk ?_ | refine wk2 ?_ ?_ | with_reducible refine wkF fun _ _ _ => ?_ | with_reducible intro _ | refine Calling.eq (F _) ?_ | refine Calling.eq (W1) ?_ | exact ag | fail))
    exact fin0
  | true =>
    cases q2 : decide ((20 : Int) < names.length) with
    | true =>
      rw [q] at F
      replace hs := later hs
      have W1 := W H hs.go
      clear hok ha W
      (repeat' (first | refine wk ?_ | refine wk2 ?_ ?_ | with_reducible refine wkF fun _ _ _ => ?_ | with_reducible intro _ | refine Calling.eq (F _) ?_ | refine Calling.eq (W1) ?_ | exact ag | fail))
      exact fin0
    | false =>
      obtain ⟨hl, hns⟩ := fewB_len q
      rw [q] at F
      have hal : names.length ≤ 20 := by simp at q2; omega
      replace hs := later hs
      replace W := later W
      replace hok := later hok
      replace hns := later hns
      replace ha := later ha
      replace hal := later hal
      clear q
      (repeat' (first | refine wk ?_ | refine wk2 ?_ ?_ | with_reducible refine wkF fun _ _ _ => ?_ | with_reducible intro _ | refine Calling.eq (F _) ?_ | exact ag | fail))
      refine Calling.by (newT_c H) ?_
      rintro _ _ ⟨t, mb, eb, HS, T, rfl, rfl⟩
      (repeat' (first | refine wk ?_ | refine wk2 ?_ ?_ | with_reducible refine wkF fun _ _ _ => ?_ | with_reducible intro _ | exact ag | fail))
      rename_i r hr hrn
      have hrS := T.gone hr
      have hsub := T.sub
      have T' := fun c => T.up ⟨_, hr⟩ (.cells c)
      refine ARun.recell r [.vs 1 [], .vs 5 []] (upd_self _ _ _) rfl (.cons conv_nils (.cons conv_nils .nil)) ?_
      rw [upd_upd]
      replace T := later T
      replace T' := later T'
      replace hsub := later hsub
      clear hr hrn F
      refine ARun.rounds (fun i : Nat => ⟨[(0, .vs 4 (l.map Act.enc)), (1, .vs 1 (names.map s1)), (5, .s (.pointer (some ⟨t, 0, none⟩))), (6, .s (.pointer (some ⟨r, 0, none⟩))), (7, .s (.int .i64 i))], upd (HS (acts (l.take i) B0).S) r (.cells [.vs 1 ((acts (l.take i) B0).R.mods.map s1), .vs 5 ((acts (l.take i) B0).R.l.map Ent.enc)])⟩)
        (fun i => l.length - i) (fun i => i ≤ l.length) ?_ 0 (by omega) ?_
      · rintro i hi next
        have e0 : (0 : Int) ≤ i := by omega
        obtain ⟨tw, mi⟩ := acts_tw hok.go (B := B0) .nil .nil hi (by omega)
        by_cases hlt : i < l.length
        · have e1 : (i : Int) < l.length := by omega
          obtain ⟨x, hx⟩ := at_ hlt
          have hx2 := vget Act.enc hx
          rw [Act.enc_def x] at hx2
          have hw := w64s (i := i) (by omega)
          have nx := next.go (i + 1) (by omega) (by omega)
          rw [acts_snoc hx] at nx
          have D := fun c => do_c g.go hs.go (T'.go c) tw (by omega) (hok.go x (List.mem_of_getElem? hx)) (by have := hns.go x (List.mem_of_getElem? hx); omega)
          simp only [RSym.tv_def, Act.enc_def] at D
          replace nx := later nx
          clear next hx tw mi
          generalize acts (l.take i) B0 = B at *
          generalize x.S B.S = S' at *
          generalize x.R B.R = R' at *
          (repeat' (first | refine wk ?_ | refine wk2 ?_ ?_ | with_reducible refine wkF fun _ _ _ => ?_ | with_reducible intro _ | exact ag | fail))
          refine ARun.drawT mixed [0, 1, 2, 3, 4, 5] (.alt 6 [2, 3, 4] [7, 8, 9] (.alt 10 [9] [] .leaf .nil) .nil) (by kernel_rfl) (by rfl) ?_
          (repeat' (first | refine wk ?_ | refine wk2 ?_ ?_ | with_reducible refine wkF fun _ _ _ => ?_ | with_reducible intro _ | refine Calling.eq (D _) ?_ | exact ag | fail))
          exact ARun.weaken nx.go (leK (Sub.refl _))
        · have e1 : decide ((i : Int) < l.length) = false := by simp; omega
          obtain rfl : i = l.length := by omega
          clear next
          generalize acts (l.take l.length) B0 = B at *
          have hn : 0 + l.length ≤ 900 := by omega
          have hn1 : 0 + l.length ≤ 1000 := by omega
          have W1 := W.go (upd (HS B.S) r (.cells [.vs 1 (B.R.mods.map s1), .vs 5 (B.R.l.map Ent.enc)])) ((hs.go.trans (hsub.go B.S)).trans (Sub.upd (Sub.refl _) (hrS _)))
          have SM := sameT_c13 g.go hs.go (T'.go [.vs 1 (B.R.mods.map s1), .vs 5 (B.R.l.map Ent.enc)]) tw hn ⟨0, "".toUTF8, 0, names⟩ (by have := hal.go; simp only []; omega)
          simp only [RSym.tv_def, Act.enc_def] at SM
          have hS2 : Sub H (upd (HS B.S) r (.cells [.vs 1 (B.R.mods.map s1), .vs 5 (B.R.l.map Ent.enc)])) := Sub.upd (hsub.go B.S) ((hsub.go B.S).gone (hrS _))
          have A := (T'.go [.vs 1 (B.R.mods.map s1), .vs 5 (B.R.l.map Ent.enc)]).hold (S := B.S) (tw.sfit hn1) tw.tw.nodup names (by have := hal.go; omega)
          have he := hold_e tw names
          by_cases q3 : B.S.cntE 1 names = 0
          · obtain ⟨b1, b2⟩ := hold_drop tw hn1 q3
            have HE := fun s hs => held tw hn1 mi q3 (s := s) hs
            have tw2 := tw.cnt hn1 1 names
            have FI := fun s => find_s ((T'.go [.vs 1 (B.R.mods.map s1), .vs 5 (B.R.l.map Ent.enc)]).tab (B.S.cnt 1 names)) s
            have RM := fun c b (hb : upd (HS (B.S.cnt 1 names)) r (.cells [.vs 1 (B.R.mods.map s1), .vs 5 (B.R.l.map Ent.enc)]) b = none) md => ((T'.go [.vs 1 (B.R.mods.map s1), .vs 5 (B.R.l.map Ent.enc)]).up ⟨_, hb⟩ (.cells c)).rem (S := B.S.cnt 1 names) (tw2.sfit hn1) tw2.tw.nodup md
            have DR := (T'.go [.vs 1 (B.R.mods.map s1), .vs 5 (B.R.l.map Ent.enc)]).drop (S := B.S.cnt 1 names) (tw2.sfit hn1) tw2.tw.nodup names (by have := hal.go; omega)
            rw [b1, b2] at DR
            rw [q3] at A
            have hrm : ∀ md, (B.S.cnt 1 names).remE md = 26 → (B.S.cnt 1 names).rem md = B.S.cnt 1 names := fun md h => by
              unfold Sym.rem; rw [if_neg (by rw [h]; decide)]
            replace HE := later HE
            replace RM := later RM
            replace FI := later FI
            replace hrm := later hrm
            clear tw tw2 mi b1 b2 q3 he
            generalize B.S.cnt 1 names = S2 at *
            (repeat' (first | refine wk ?_ | refine wk2 ?_ ?_ | with_reducible refine wkF fun _ _ _ => ?_ | with_reducible intro _ | refine Calling.eq (A) ?_ | exact ag | fail))
            refine ARun.rounds (fun j : Nat => ⟨[(1, .vs 1 (names.map s1)), (5, .s (.pointer (some ⟨t, 0, none⟩))), (6, .s (.pointer (some ⟨r, 0, none⟩))), (9, .s (.int .i64 j))], upd (HS S2) r (.cells [.vs 1 (B.R.mods.map s1), .vs 5 (B.R.l.map Ent.enc)])⟩)
              (fun j => names.length - j) (fun j => j ≤ names.length) ?_ 0 (by omega) ?_
            · rintro j hj next
              have j0 : (0 : Int) ≤ j := by omega
              by_cases hlt : j < names.length
              · have j1 : (j : Int) < names.length := by omega
                have jw := w64s (i := j) (by have := hal.go; omega)
                obtain ⟨s, hs1⟩ := at_ hlt
                have hs2 := vget s1 hs1
                rw [s1_def s] at hs2
                obtain ⟨e, g1, g2, g3, g4⟩ := HE.go s (List.mem_of_getElem? hs1)
                have F1 := FI.go s
                have R1 := fun c b hb => RM.go c b hb e.md
                simp only [g4, hrm.go _ g4] at R1
                rw [g1] at F1
                simp only [Option.getD_some, Option.isSome_some, if_true, Ent.enc_def] at F1
                have nx := next.go (j + 1) (by omega) (by omega)
                have d1 : decide (e.rf < 1) = false := by simp; omega
                have d2 : decide (8 < e.rf) = false := by simp; omega
                replace nx := later nx
                clear next hs1 g1 g2 g3 g4 SM DR A
                replace R1 := later R1
                (repeat' (first | refine wk ?_ | refine wk2 ?_ ?_ | with_reducible refine wkF fun _ _ _ => ?_ | with_reducible intro _ | refine Calling.eq (F1) ?_ | exact ag | fail))
                rename_i x1 hx1 hx1n
                have R2 := R1.go [.s (.string e.nm), .s (.string e.md), .s (.int .i64 e.gt), .s (.int .i64 e.ix), .s (.int .i64 e.rf)] x1 hx1
                (repeat' (first | refine wk ?_ | refine wk2 ?_ ?_ | with_reducible refine wkF fun _ _ _ => ?_ | with_reducible intro _ | refine Calling.eq (R2) ?_ | exact ag | fail))
                exact ARun.weaken nx.go (leK (by exact sb))
              · have j1 : decide ((j : Int) < names.length) = false := by simp; omega
                clear next
                (repeat' (first | refine wk ?_ | refine wk2 ?_ ?_ | with_reducible refine wkF fun _ _ _ => ?_ | with_reducible intro _ | refine Calling.eq (DR) ?_ | refine Calling.eq (SM) ?_ | refine Calling.eq (W1) ?_ | exact ag | fail))
                exact fin0
            · exact leK (Sub.refl _)
          · have e2 : B.S.cnt 1 names = B.S := Sym.cnt_no q3
            rw [e2] at A
            rcases he with he | he | he
            · exact absurd he q3
            · rw [he] at A
              clear tw mi q3 e2 he
              (repeat' (first | refine wk ?_ | refine wk2 ?_ ?_ | with_reducible refine wkF fun _ _ _ => ?_ | with_reducible intro _ | refine Calling.eq (A) ?_ | refine Calling.eq (SM) ?_ | refine Calling.eq (W1) ?_ | exact ag | fail))
              exact fin0
            · rw [he] at A
              clear tw mi q3 e2 he
              (repeat' (first | refine wk ?_ | refine wk2 ?_ ?_ | with_reducible refine wkF fun _ _ _ => ?_ | with_reducible intro _ | refine Calling.eq (A) ?_ | refine Calling.eq (SM) ?_ | refine Calling.eq (W1) ?_ | exact ag | fail))
              exact fin0
      · exact leK (Sub.refl _)
end Go.Abs
/- From a contract to a row: the library's variables are held as they are, the row's slices are read. -/
namespace Go.Proofs.YtephimncnnogfaaDoor
open Go.RowKit Go.Lib Go.Proofs.YtephimncnnogfaaDoorW.PrintWords
set_option linter.unusedVariables false
structure Glob (w : World) : Prop where
  m : ∃ m, w.cell? ⟨0, 0, none⟩ = some (.int .i64 m)
  u : Lib.Utf8Tabs 1 2 w
theorem laidH_plain (P : Program) (laid : List (String × DataW Unit)) (w : World) (h : (laid.all fun x => x.2.handleName?.isNone) = true) (hl : laidMetH P laid w) : laidMet P laid w := by
  have e : (laid.filter fun x => x.2.handleName?.isSome) = [] := by
    rw [List.filter_eq_nil_iff]
    intro x hx hs
    have := List.all_eq_true.1 h x hx
    cases hn : x.2.handleName? with
    | none => rw [hn] at hs; cases hs
    | some s => rw [hn] at this; cases this
  unfold laidMetH at hl
  rw [e] at hl
  exact hl
namespace P
end P
end Go.Proofs.YtephimncnnogfaaDoor
namespace Go.Abs
set_option linter.unusedSimpArgs false
set_option linter.unusedVariables false
open Go.Proofs Go.RowKit Go.Proofs.YtephimncnnogfaaDoor Go.Proofs.YtephimncnnogfaaDoorW.PrintWords
set_option linter.unusedVariables false
/-- The first n blocks, held as they are. -/
def heldAs (w : World) (n : Nat) : Heap := fun b => if b < n then (w.heap[b]?).map .exact else none
theorem heldAs_rel (w : World) (n : Nat) : HRel (heldAs w n) w := by
  intro b r h
  unfold heldAs at h
  split at h
  · cases e : w.heap[b]? with
    | none => rw [e] at h; cases h
    | some o => rw [e] at h; cases h; exact e
  · cases h
theorem heldAs_keep {w w' : World} {n : Nat} (h : HRel (heldAs w n) w') {b : Nat} (hb : b < n) (hs : b < w.heap.size) : w'.heap[b]? = w.heap[b]? := by
  have e : w.heap[b]? = some w.heap[b] := Array.getElem?_eq_getElem hs
  have := h b (.exact w.heap[b]) (by unfold heldAs; rw [if_pos hb, e]; rfl)
  rw [e]; exact this
theorem heldAs_none {w : World} {n b : Nat} (h : n ≤ b) : heldAs w n b = none := by unfold heldAs; rw [if_neg (by omega)]
theorem cell_lt' {w : World} {a : Addr} {v : Value} (hc : w.cell? a = some v) : a.block < w.heap.size := by
  rcases Nat.lt_or_ge a.block w.heap.size with h | h
  · exact h
  · simp [World.cell?, Array.getElem?_eq_none h] at hc
/-- A call that leaves the held blocks as they are leaves all blocks as they are. -/
theorem below_of {w w' : World} {n : Nat} (he : Ext (heldAs w n) w (heldAs w n) w') (hr : HRel (heldAs w n) w') : Below w.heap.size w w' where
  os := he.os
  tape := he.tape
  output := he.output
  size := he.size
  block := fun k hk => by
    by_cases h : k < n
    · exact heldAs_keep hr h hk
    · exact (he.keep k hk (heldAs_none (by omega))).1
theorem glob_held {w : World} (hG : Glob w) : GH (heldAs w 3) where
  exact := fun b hb => by
    unfold heldAs at hb ⊢
    split at hb
    · rename_i h; rw [if_pos h]
      cases e : w.heap[b]? with
      | none => rw [e] at hb; exact absurd rfl hb
      | some o => exact ⟨o, rfl⟩
    · exact absurd rfl hb
  tabs := fun w' hr => by
    have hc : ∀ b off v, b < 3 → w.cell? ⟨b, off, none⟩ = some v → w'.cell? ⟨b, off, none⟩ = some v := fun b off v hb hv => by
      have hk := heldAs_keep hr hb (cell_lt' hv)
      rw [← hv]; simp only [World.cell?, hk]
    exact ⟨fun c h => hc 1 c _ (by omega) (hG.u.1 c h), fun i h => ⟨hc 2 _ _ (by omega) (hG.u.2 i h).1, hc 2 _ _ (by omega) (hG.u.2 i h).2⟩⟩
  first := by
    have h0 := hG.u.1 0 (by decide)
    unfold World.cell? at h0
    split at h0
    · rename_i c e fz hb
      refine ⟨c, e, fz, ?_, fun i hi => ?_⟩
      · have hb' : w.heap[1]? = some (.cells c e fz) := hb
        unfold heldAs; rw [if_pos (by decide), hb']; rfl
      · have h1 := hG.u.1 i hi
        have hb' : w.heap[1]? = some (.cells c e fz) := hb
        simpa only [World.cell?, hb', Option.isSome_none, Bool.false_eq_true, if_false] using h1
    · cases h0
  acc := by
    have h0 := (hG.u.2 0 (by decide)).1
    unfold World.cell? at h0
    split at h0
    · rename_i c e fz hb
      refine ⟨c, e, fz, ?_, fun i hi => ?_⟩
      · have hb' : w.heap[2]? = some (.cells c e fz) := hb
        unfold heldAs; rw [if_pos (by decide), hb']; rfl
      · obtain ⟨h1, h2⟩ := hG.u.2 i hi
        have hb' : w.heap[2]? = some (.cells c e fz) := hb
        exact ⟨by simpa only [World.cell?, hb', Option.isSome_none, Bool.false_eq_true, if_false] using h1, by simpa only [World.cell?, hb', Option.isSome_none, Bool.false_eq_true, if_false] using h2⟩
    · cases h0
theorem repC_of {w : World} {F : Nat → Prop} {b : Nat} : ∀ (vs : List Value) (off : Nat), (∀ i u, vs[i]? = some u → w.cell? ⟨b, off + i, none⟩ = some u) → RepC w F b off (vs.map .s)
  | [], off, _ => by simp only [List.map_nil, RepC]
  | v :: vs, off, h => by
    simp only [List.map_cons, RepC]
    refine ⟨⟨v, h 0 v rfl, rfl⟩, repC_of vs (off + 1) fun i u hu => ?_⟩
    have := h (i + 1) u hu
    rw [show off + 1 + i = off + (i + 1) by omega]; exact this
theorem repE_of {α : Type} {enc : α → List Value} {w : World} {F : Nat → Prop} {b k : Nat} (hF : F b) (hk : ∀ x, (enc x).length = k) : ∀ (xs : List α) (off : Nat), (∀ j p, xs[j]? = some p → ∀ i u, (enc p)[i]? = some u → w.cell? ⟨b, off + (j * k + i), none⟩ = some u) → RepE w F (some ⟨b, off, none⟩) k xs.length (xs.map fun x => (enc x).map .s)
  | [], off, _ => by simp only [List.map_nil, RepE, List.length_nil]
  | x :: xs, off, h => by
    simp only [List.map_cons, RepE]
    refine ⟨b, off, xs.length, rfl, rfl, hF, by rw [List.length_map]; exact hk x, repC_of _ _ fun i u hu => ?_, repE_of hF hk xs (off + k) fun j p hp i u hu => ?_⟩
    · have := h 0 x rfl i u hu
      rw [Nat.zero_mul, Nat.zero_add] at this; exact this
    · have := h (j + 1) p hp i u hu
      rw [Nat.succ_mul] at this
      rw [show off + k + (j * k + i) = off + (j * k + k + i) by omega]; exact this
theorem add_mk (b o j : Nat) : (⟨b, o, none⟩ : Addr).add j = ⟨b, o + j, none⟩ := by unfold Addr.add; split <;> simp_all
/-- A row of structs that is read, as a walk sees it. -/
theorem rep_row {α : Type} {d : Kd α} {enc : α → List Value} {w : World} {F : Nat → Prop} {A : Option Addr} {xs : List α} {cap : Nat} (hk : ∀ x, (enc x).length = d.sz) (hp : 0 < d.sz) (hK : ∀ x cs, d.K w x cs → cs = enc x) (h : Kd.C d w A xs.length xs) (hc : xs.length ≤ cap)
    (hF : ∀ b off x, x ∈ xs → (∀ i u, (enc x)[i]? = some u → w.cell? ⟨b, off + i, none⟩ = some u) → F b) : Rep w F (.vs d.sz (xs.map fun x => (enc x).map .s)) (.slice A xs.length cap) := by
  simp only [Rep]
  refine ⟨A, xs.length, cap, rfl, hc, ?_⟩
  cases xs with
  | nil => simp only [List.map_nil, RepE, List.length_nil]
  | cons y ys =>
    obtain ⟨_, _, h⟩ := h
    obtain ⟨ad, rfl, hall⟩ := h (by simp)
    have hcell : ∀ j p, (y :: ys)[j]? = some p → ∀ i u, (enc p)[i]? = some u → w.cell? (ad.add (j * d.sz + i)) = some u := fun j p hp i u hu => by
      obtain ⟨c, _, hR, hcc⟩ := hall j p hp
      rw [hK p c hR] at hcc
      exact hcc i u hu
    have hsp : ad.spot = none := by
      have h0 : (enc y)[0]? = some ((enc y)[0]'(by rw [hk]; exact hp)) := List.getElem?_eq_getElem _
      have : w.cell? ad = some ((enc y)[0]'(by rw [hk]; exact hp)) := by have := hcell 0 y rfl 0 _ h0; rw [Nat.zero_mul, Nat.zero_add] at this; simpa only [Addr.add, if_true] using this
      unfold World.cell? at this
      split at this
      · cases e : ad.spot with
        | none => rfl
        | some z => rw [e] at this; simp at this
      · cases this
    obtain ⟨b, off, sp⟩ := ad
    simp only [] at hsp
    subst hsp
    exact repE_of (hF b off y (by simp) fun i u hu => by have := hcell 0 y rfl i u hu; rw [Nat.zero_mul, Nat.zero_add, add_mk] at this; exact this) hk (y :: ys) off fun j p hp i u hu => by rw [← add_mk]; exact hcell j p hp i u hu
/-- A cell of a variable of numbers holds such a number. -/
theorem only_int {P : Program} {w : World} (h : w.ShapedOpen P) {g : Nat} {t : TypeId} (hg : g < P.globals.size) (h0 : (((begin P (fun _ _ => 0) default).world.heap[g]?).bind Obj.row?).map (·.2) = some t) (hb : P.buildable t = true)
    {k : IntKind} {e : TypeId} {n : Nat} (hc : P.cellTypes P.depth t = some (List.replicate n e)) (hu : P.underlying e = some (.int k)) (off : Nat) {v : Value} (hcell : w.cell? ⟨g, off, none⟩ = some v) : ∃ x, v = .int k x := by
  cases hz : ((begin P (fun _ _ => 0) default).world.heap[g]?).bind Obj.row? with
  | none => rw [hz] at h0; cases h0
  | some zt =>
    obtain ⟨zero, t'⟩ := zt
    rw [hz] at h0; obtain rfl : t' = t := by simpa using h0
    obtain ⟨cs, hh, _, hr⟩ := h.1 g zero _ hg hz
    obtain ⟨ts, hts, _, hall⟩ := hr hb
    rw [hc] at hts; cases hts
    simp only [World.cell?, hh] at hcell
    obtain ⟨u, hu', hok⟩ := hall off _ hcell
    have : u = e := List.eq_of_mem_replicate (List.mem_of_getElem? hu')
    subst this
    unfold Cell.ok at hok
    rw [hu] at hok
    cases v <;> simp at hok
    obtain ⟨rfl, _⟩ := hok
    exact ⟨_, rfl⟩
theorem only3 {w : World} (hsh : w.ShapedOpen Tryd.prog) : ∀ b, b < 3 → ∀ off v, w.cell? ⟨b, off, none⟩ = some v → ∃ k x, v = .int k x ∧ (k = .i64 ∨ k = .u8) := by
  intro b hb off v h
  match b, hb with
  | 0, _ => obtain ⟨x, e⟩ := only_int hsh (of_decide_eq_true (by kernel_rfl)) (t := 3) (by kernel_rfl) (by kernel_rfl) (n := 1) (e := 3) (by kernel_rfl) Tryd.underlying3 off h; exact ⟨_, x, e, .inl rfl⟩
  | 1, _ => obtain ⟨x, e⟩ := only_int hsh (of_decide_eq_true (by kernel_rfl)) (t := 121) (by kernel_rfl) (by kernel_rfl) (n := 256) (e := 5) (by kernel_rfl) Tryd.underlying5 off h; exact ⟨_, x, e, .inr rfl⟩
  | 2, _ => obtain ⟨x, e⟩ := only_int hsh (of_decide_eq_true (by kernel_rfl)) (t := 124) (by kernel_rfl) (by kernel_rfl) (n := 32) (e := 5) (by kernel_rfl) Tryd.underlying5 off h; exact ⟨_, x, e, .inr rfl⟩
theorem AC.calls {P : Program} {g : FuncId} {fn : Func} {args : List TV} {H : Heap} {C : TV → Heap → Prop} (h : AC P g args H C) (hf : P.funcs[g]? = some fn) (hb : fn.body.isNone = false) (hname : (fn.name == "runtime.NumGoroutine") = false)
    {argv : List Value} {w : World} (ha : RepL w (Fr H w) args argv) (hh : HRel H w) : Calls P g argv.toArray w fun e w' => ∃ v, e = .returned v ∧ After C H w v w' := by
  rcases h argv w ha hh with h | ⟨v, w', h, _⟩
  · exact h.2
  · have : (callFunc g argv.toArray).run P w = .ok (.enter g argv.toArray) w := by
      unfold callFunc
      rw [run_ok (w' := w) (a := P) rfl]
      simp only [hf, hname, Bool.false_eq_true, if_false, hb]; rfl
    rw [this] at h; cases h
/-- A law that always tells true, in the kit's own words. -/
theorem AC.law {P : Program} {g : FuncId} {fn : Func} {args : List TV} {w : World} {n : Nat} (h : AC P g args (heldAs w n) (fun r H' => r = .s (.bool true) ∧ H' = heldAs w n)) (hf : P.funcs[g]? = some fn) (hb : fn.body.isNone = false) (hname : (fn.name == "runtime.NumGoroutine") = false)
    {argv : List Value} (ha : RepL w (Fr (heldAs w n) w) args argv) : Calls P g argv.toArray w fun e w' => e = .returned (.bool true) ∧ Below w.heap.size w w' := by
  refine (h.calls hf hb hname ha (heldAs_rel w n)).mono fun e w' ⟨v, he, r, H', ⟨hr, hH⟩, hv, hrel, hext⟩ => ?_
  subst he hr hH
  simp only [Rep] at hv
  subst hv
  exact ⟨rfl, below_of hext hrel⟩
theorem fr3 {w : World} (hsh : w.ShapedOpen Tryd.prog) {b off : Nat} {v : Value} (h : w.cell? ⟨b, off, none⟩ = some v) (hv : ∀ k x, v = .int k x → k ≠ .i64 ∧ k ≠ .u8) : Fr (heldAs w 3) w b := by
  refine ⟨cell_lt' h, heldAs_none ?_⟩
  rcases Nat.lt_or_ge b 3 with g | g
  · obtain ⟨k, x, e, hk⟩ := only3 hsh b g off v h
    have := hv k x e
    rcases hk with hk | hk
    · exact absurd hk this.1
    · exact absurd hk this.2
  · exact g
theorem row_s {w : World} {A : Option Addr} {l : List ByteArray} {c : Nat} (hr : Kd.C Kd.string w A l.length l) (hc : l.length ≤ c) (hsh : w.ShapedOpen Tryd.prog) : Rep w (Fr (heldAs w 3) w) (.vs 1 (l.map s1)) (.slice A l.length c) :=
  rep_row (d := Kd.string) (enc := fun x => [.string x]) (fun x => rfl) (by decide) (fun x cs h => h) hr hc fun b off x hx hcell => fr3 hsh (off := off + 0) (hcell 0 _ rfl) (fun k y e => by cases e)
theorem row_u {w : World} {A : Option Addr} {l : List Int} {c : Nat} (hr : Kd.C (Kd.int .u32) w A l.length l) (hc : l.length ≤ c) (hsh : w.ShapedOpen Tryd.prog) (hg : ∀ y ∈ l, (Lit.int .u32 y).wf = true) : Rep w (Fr (heldAs w 3) w) (.vs 1 ((l.map Int.toNat).map u1)) (.slice A l.length c) := by
  have h := rep_row (d := Kd.int .u32) (enc := fun x => [.int .u32 x]) (fun x => rfl) (by decide) (fun x cs h => h) hr hc (F := Fr (heldAs w 3) w) fun b off x hx hcell => fr3 hsh (off := off + 0) (hcell 0 _ rfl) (fun k y e => by cases e; exact ⟨by decide, by decide⟩)
  have e : (l.map fun x => [Value.int .u32 x].map TV.s) = (l.map Int.toNat).map u1 := by
    rw [List.map_map]
    refine List.map_congr_left fun x hx => ?_
    have := (Op.r32 (hg x hx)).1
    simp only [Function.comp_def, u1, List.map_cons, List.map_nil]
    rw [Int.toNat_of_nonneg this]
  rw [e] at h
  exact h
open Go.Proofs.YtephimncnnogfaaDoor.P
section
end
end Go.Abs
/- What an argument's reading tells: a value as a walk sees it. -/
namespace Go.Abs
set_option linter.unusedSimpArgs false
set_option linter.unusedVariables false
open Go.RowKit Go.Lib Go.Proofs.YtephimncnnogfaaDoorW.PrintWords
open Go.Proofs Go.RowKit Go.Proofs.YtephimncnnogfaaDoor Go.Proofs.YtephimncnnogfaaDoorW.PrintWords
set_option linter.unusedVariables false
/-- What readings are of: how much there may be of it, which texts there may be. -/
structure Cx (H : Type) where
  enc : TypeId × Value → H
  P : Program
  w : World
  F : Nat → Prop
  B : DataW H → Nat
  BA : List (DataW H) → Nat
  M : Nat
  L : Nat
  mem : ∀ d l, d ∈ l → B d ≤ BA l
  sl : ∀ es sp, BA es ≤ B (.slice es sp)
  ag : ∀ ps, BA ps ≤ B (.agg ps)
  st : ∀ s : ByteArray, B (.lit (.string s.data.toList)) ≤ M → s.size ≤ maxLen → s.size ≤ L
section
variable {H : Type} {X : Cx H} {α β : Type}
def Reads (X : Cx H) (t : TypeId) (enc : α → List TV) (good : α → Prop) : Prop :=
  ∀ n cs y, DataW.trod X.enc X.P X.w 0 (fun _ => true) true n t cs = some y → X.B y.1 ≤ X.M → ∃ a, RepL X.w X.F (enc a) cs ∧ good a
theorem rdInt {t : TypeId} {k : IntKind} (ht : X.P.underlying t = some (.int k)) : Reads X t (fun n : Int => [.s (.int k n)]) (fun n => (Lit.int k n).wf = true) := fun n cs y h _ => by
  obtain ⟨a, rfl, _, hw⟩ := DataW.trod_int ht h
  exact ⟨a, ⟨_, _, rfl, by simp only [Rep], rfl⟩, hw⟩
theorem rdBool {t : TypeId} (ht : X.P.underlying t = some .bool) : Reads X t (fun b : Bool => [.s (.bool b)]) (fun _ => True) := fun n cs y h _ => by
  obtain ⟨a, rfl, _⟩ := DataW.trod_bool ht h
  exact ⟨a, ⟨_, _, rfl, by simp only [Rep], rfl⟩, trivial⟩
theorem rdStr {t : TypeId} (ht : X.P.underlying t = some .string) : Reads X t (fun s : ByteArray => [.s (.string s)]) (fun s => s.size ≤ X.L) := fun n cs y h hb => by
  obtain ⟨a, rfl, hx, hs⟩ := DataW.trod_string ht h
  exact ⟨a, ⟨_, _, rfl, by simp only [Rep], rfl⟩, X.st a (by rw [hx] at hb; exact hb) hs⟩
theorem repC_of_rep {w : World} {F : Nat → Prop} {b : Nat} : ∀ {ts : List TV} {cs : List Value} (off : Nat), RepL w F ts cs → (∀ i u, cs[i]? = some u → w.cell? ⟨b, off + i, none⟩ = some u) → RepC w F b off ts
  | [], cs, off, h, hc => by simp only [RepC]
  | t :: ts, cs, off, h, hc => by
    simp only [RepL] at h
    obtain ⟨y, ys, rfl, h1, h2⟩ := h
    simp only [RepC]
    exact ⟨⟨y, hc 0 y rfl, h1⟩, repC_of_rep (off + 1) h2 fun i u hi => by rw [show off + 1 + i = off + (i + 1) by omega]; exact hc (i + 1) u hi⟩
/-- A row. -/
theorem rdSlice {t e : TypeId} {k : Nat} {enc : α → List TV} {good : α → Prop} (ht : X.P.underlying t = some (.slice e)) (hsz : X.P.cellsOf e = k) (hk : 0 < k) (hlen : ∀ a, (enc a).length = k) (hel : Reads X e enc good)
    (hF : ∀ a b off cs, good a → RepL X.w X.F (enc a) cs → (∀ i u, cs[i]? = some u → X.w.cell? ⟨b, off + i, none⟩ = some u) → X.F b) : Reads X t (fun l : List α => [.vs k (l.map enc)]) (fun l => (l.length : Nat) ≤ maxLen ∧ ∀ a ∈ l, good a) := fun n cs y h hb => by
  rcases Go.Deep.open_slice ht h with ⟨rfl, _⟩ | ⟨a, ln, cap, m, n', D, Pl, rfl, _, hl, hm, hmm, hxe, hx⟩
  · refine ⟨[], ⟨_, _, rfl, ?_, rfl⟩, by simp [maxLen], fun a ha => (List.not_mem_nil ha).elim⟩
    simp only [Rep, List.map_nil, RepE]
    exact ⟨none, 0, 0, rfl, Nat.le_refl _, rfl⟩
  · have hle : ln ≤ m := by rw [hmm]; split <;> omega
    have h1 : ∀ i, i < ln → ∃ c : α, good c ∧ ∃ cs' : List Value, RepL X.w X.F (enc c) cs' ∧ ∀ j u, cs'[j]? = some u → X.w.cell? ((a.add (i * k)).add j) = some u := fun i hi => by
      obtain ⟨cs', hc, ht'⟩ := hx i (by omega)
      have hbd : X.B (D i) ≤ X.M := by
        have h1 := X.mem (D i) ((List.range ln).map D) (List.mem_map.2 ⟨i, List.mem_range.2 hi, rfl⟩)
        have h2 := X.sl ((List.range ln).map D) ((List.range (m - ln)).map fun j => D (ln + j))
        rw [hxe] at hb
        simp only [] at hb
        omega
      obtain ⟨c, hr, hg⟩ := hel n' cs' _ ht' hbd
      obtain ⟨_, hlen', hcell⟩ := World.cells?_some hc
      refine ⟨c, hg, cs', hr, fun j u hu => ?_⟩
      have hj : j < X.P.cellsOf e := by rw [← hlen']; exact (List.getElem?_eq_some_iff.1 hu).1
      rw [hsz] at hj hcell
      rw [hcell j hj]; exact hu
    have hlenR : ∀ {ts : List TV} {cs : List Value}, RepL X.w X.F ts cs → cs.length = ts.length := by
      intro ts
      induction ts with
      | nil => intro cs h; simp only [RepL] at h; rw [h]; rfl
      | cons t ts ih => intro cs h; simp only [RepL] at h; obtain ⟨y, ys, rfl, _, h2⟩ := h; simp [ih h2]
    have hsp : 0 < ln → a.spot = none := fun h0 => by
      obtain ⟨c, _, cs', hr, hc⟩ := h1 0 h0
      have hl0 := hlenR hr
      rw [hlen] at hl0
      have h00 : cs'[0]? = some (cs'[0]'(by omega)) := List.getElem?_eq_getElem _
      have := hc 0 _ h00
      rw [Nat.zero_mul] at this
      simp only [Addr.add, if_true] at this
      unfold World.cell? at this
      split at this
      · cases e : a.spot with
        | none => rfl
        | some z => rw [e] at this; simp at this
      · cases this
    have key : ∀ q i, i + q = ln → ∃ l : List α, l.length = q ∧ (∀ c ∈ l, good c) ∧ RepE X.w X.F (some (a.add (i * k))) k q (l.map enc) := by
      intro q
      induction q with
      | zero => intro i _; exact ⟨[], rfl, fun c hc => (List.not_mem_nil hc).elim, by simp only [List.map_nil, RepE]⟩
      | succ q ih =>
        intro i hi
        obtain ⟨l, hl1, hl2, hl3⟩ := ih (i + 1) (by omega)
        obtain ⟨c, hg, cs', hr, hc⟩ := h1 i (by omega)
        have hs := hsp (by omega)
        have hadd : ∀ j, a.add j = ⟨a.block, a.off + j, none⟩ := fun j => by obtain ⟨b, o, s⟩ := a; simp only at hs; subst hs; exact add_mk b o j
        have hc' : ∀ j u, cs'[j]? = some u → X.w.cell? ⟨a.block, a.off + i * k + j, none⟩ = some u := fun j u hu => by
          have := hc j u hu
          rw [hadd, add_mk] at this; exact this
        refine ⟨c :: l, by simp [hl1], fun x hx => ?_, ?_⟩
        · rcases List.mem_cons.1 hx with rfl | hx
          · exact hg
          · exact hl2 x hx
        · simp only [List.map_cons, RepE]
          refine ⟨a.block, a.off + i * k, q, by rw [hadd], rfl, hF c a.block _ cs' hg hr hc', hlen c, repC_of_rep _ hr hc', ?_⟩
          have e : (⟨a.block, a.off + i * k + k, none⟩ : Addr) = a.add ((i + 1) * k) := by rw [hadd, Nat.succ_mul, Nat.add_assoc]
          rw [e]; exact hl3
    obtain ⟨l, hl1, hl2, hl3⟩ := key ln 0 (by omega)
    have e0 : a.add (0 * k) = a := by rw [Nat.zero_mul]; simp only [Addr.add, if_true]
    rw [e0] at hl3
    refine ⟨l, ⟨_, _, rfl, ?_, rfl⟩, by rw [hl1]; exact Nat.le_trans hl hm, hl2⟩
    simp only [Rep]
    exact ⟨some a, ln, cap, rfl, hl, hl3⟩
/-- Fields of a struct, from one on. -/
def ReadsF (X : Cx H) (fs : Array Field) (i off tot : Nat) (enc : α → List TV) (good : α → Prop) : Prop :=
  ∀ (n : Nat) (xs : List (DataW H × List MemPlace)) (cs : List Value), cs.length = tot → xs.length = fs.size → (∀ (j : Nat) (f : Field), fs[j]? = some f → DataW.trod X.enc X.P X.w 0 (fun _ => true) true n f.type ((cs.drop f.offset).take (X.P.cellsOf f.type)) = xs[j]?) →
    (∀ x ∈ xs, X.B x.1 ≤ X.M) → ∃ a, RepL X.w X.F (enc a) (cs.drop off) ∧ good a
theorem rdEnd {fs : Array Field} {i tot : Nat} : ReadsF X fs i tot tot (fun _ : Unit => []) (fun _ => True) := fun n xs cs hc hx h hb =>
  ⟨(), by simp only [RepL]; exact List.drop_of_length_le (by omega), trivial⟩
theorem rdCons {fs : Array Field} {i off off' tot c : Nat} {f : Field} {enc1 : α → List TV} {good1 : α → Prop} {enc2 : β → List TV} {good2 : β → Prop} (hf : fs[i]? = some f) (ho : f.offset = off) (hc : X.P.cellsOf f.type = c) (ho' : off + c = off')
    (h1 : Reads X f.type enc1 good1) (h2 : ReadsF X fs (i + 1) off' tot enc2 good2) : ReadsF X fs i off tot (fun p : α × β => enc1 p.1 ++ enc2 p.2) (fun p => good1 p.1 ∧ good2 p.2) := fun n xs cs hcs hx h hb => by
  have hi : i < fs.size := (Array.getElem?_eq_some_iff.1 hf).1
  have hg := h i f hf
  rw [List.getElem?_eq_getElem (by omega), hc, ho] at hg
  obtain ⟨a, ha, ga⟩ := h1 n _ _ hg (hb _ (List.getElem_mem _))
  obtain ⟨b, hb2, gb⟩ := h2 n xs cs hcs hx h hb
  refine ⟨(a, b), ?_, ga, gb⟩
  have e : cs.drop off = (cs.drop off).take c ++ cs.drop off' := by rw [← ho', ← List.drop_drop, List.take_append_drop]
  rw [e]
  exact repL_append ha hb2
theorem rdStruct {t : TypeId} {fs : Array Field} {tot : Nat} {enc : α → List TV} {good : α → Prop} (ht : X.P.underlying t = some (.struct fs)) (hc : X.P.cellsOf t = tot) (h : ReadsF X fs 0 0 tot enc good) : Reads X t enc good := fun n cs y hy hb => by
  obtain ⟨xs, n', _, hxe, hcs, hl, hx⟩ := DataW.trod_struct ht hy
  obtain ⟨a, ha, ga⟩ := h n' xs cs (hcs.trans hc) hl hx fun x hx' => by
    have h1 := X.mem x.1 (xs.map (·.1)) (List.mem_map.2 ⟨x, hx', rfl⟩)
    have h2 := X.ag (xs.map (·.1))
    rw [hxe] at hb
    simp only [] at hb
    omega
  exact ⟨a, by simpa using ha, ga⟩
theorem Reads.map {t : TypeId} {enc : α → List TV} {good : α → Prop} (h : Reads X t enc good) (g : α → β) {enc' : β → List TV} {good' : β → Prop} (he : ∀ a, good a → enc' (g a) = enc a) (hg : ∀ a, good a → good' (g a)) : Reads X t enc' good' := fun n cs y hy hb =>
  let ⟨a, ha, ga⟩ := h n cs y hy hb
  ⟨g a, by rw [he a ga]; exact ha, hg a ga⟩
end
/-- What is no library's table: a cell that is neither an int nor a byte. -/
theorem fr_cell {w : World} (hsh : w.ShapedOpen Tryd.prog) {ts : List TV} {b off : Nat} {cs : List Value} (hr : RepL w (Fr (heldAs w 3) w) ts cs) (hc : ∀ i u, cs[i]? = some u → w.cell? ⟨b, off + i, none⟩ = some u)
    (i : Nat) {t : TV} (ht : ts[i]? = some t) (hv : ∀ v, Rep w (Fr (heldAs w 3) w) t v → ∀ k x, v = .int k x → k ≠ .i64 ∧ k ≠ .u8) : Fr (heldAs w 3) w b := by
  have : ∃ v, cs[i]? = some v ∧ Rep w (Fr (heldAs w 3) w) t v := by
    clear hc hv
    induction ts generalizing cs i with
    | nil => cases ht
    | cons t' ts ih =>
      simp only [RepL] at hr
      obtain ⟨y, ys, rfl, h1, h2⟩ := hr
      cases i with
      | zero => simp at ht; subst ht; exact ⟨y, rfl, h1⟩
      | succ i => exact ih h2 i (by simpa using ht)
  obtain ⟨v, h1, h2⟩ := this
  exact fr3 hsh (hc i v h1) (hv v h2)
theorem no_str {w : World} {F : Nat → Prop} {s : ByteArray} : ∀ v, Rep w F (.s (.string s)) v → ∀ k x, v = .int k x → k ≠ .i64 ∧ k ≠ .u8 := fun v h k x e => by simp only [Rep] at h; subst h; cases e
theorem rdStrs {H : Type} {X : Cx H} (hsh : X.w.ShapedOpen Tryd.prog) (hF : X.F = Fr (heldAs X.w 3) X.w) {t e : TypeId} (ht : X.P.underlying t = some (.slice e)) (he : X.P.underlying e = some .string) (hsz : X.P.cellsOf e = 1) : Reads X t (fun l : List ByteArray => [.vs 1 (l.map s1)]) (fun l => l.length ≤ maxLen ∧ ∀ s ∈ l, s.size ≤ X.L) :=
  rdSlice ht hsz (by decide) (fun _ => rfl) (rdStr he) fun a b off cs _ hr hc => by
    rw [hF] at hr ⊢
    exact fr_cell hsh hr hc 0 rfl no_str
theorem rdNames {H : Type} {X : Cx H} (hP : X.P = Tryd.prog) (hsh : X.w.ShapedOpen Tryd.prog) (hF : X.F = Fr (heldAs X.w 3) X.w) : Reads X 22 (fun l : List ByteArray => [.vs 1 (l.map s1)]) (fun l => l.length ≤ maxLen ∧ ∀ s ∈ l, s.size ≤ X.L) :=
  rdStrs hsh hF (by rw [hP]; exact Tryd.underlying22) (by rw [hP]; exact Tryd.underlying9) (by rw [hP]; kernel_rfl)
end Go.Abs
/- The laws of layer 13, as rows call them. -/
namespace Go.Abs
set_option linter.unusedSimpArgs false
set_option linter.unusedVariables false
open Go.Proofs Go.RowKit Go.Lib Go.Proofs.YtephimncnnogfaaDoor Go.Proofs.YtephimncnnogfaaDoorW.PrintWords
set_option linter.unusedVariables false
set_option linter.unusedSectionVars false
def Act.good (L : Nat) (a : Act) : Prop := (Lit.int .u8 a.k).wf = true ∧ a.nm.size ≤ L ∧ ∀ s ∈ a.names, s.size ≤ L
theorem Act.good.ok {a : Act} (h : a.good 1048576) : a.ok := ⟨Op.r8 h.1, by have := h.2.1; unfold few; omega, fun s hs => by have := h.2.2 s hs; unfold few; omega⟩
theorem rdAct {H : Type} {X : Cx H} (hP : X.P = Tryd.prog) (hsh : X.w.ShapedOpen Tryd.prog) (hF : X.F = Fr (heldAs X.w 3) X.w) : Reads X 44 Act.enc (Act.good X.L) := by
  refine Reads.map (rdStruct (tot := 4) (by rw [hP]; exact Tryd.underlying44) (by rw [hP]; kernel_rfl)
    (rdCons (off' := 1) (c := 1) rfl rfl (by rw [hP]; kernel_rfl) rfl (rdInt (by rw [hP]; exact Tryd.underlying5))
      (rdCons (off' := 2) (c := 1) rfl rfl (by rw [hP]; kernel_rfl) rfl (rdStr (by rw [hP]; exact Tryd.underlying9))
        (rdCons (off' := 3) (c := 1) rfl rfl (by rw [hP]; kernel_rfl) rfl (rdInt (by rw [hP]; exact Tryd.underlying3))
          (rdCons (off' := 4) (c := 1) rfl rfl (by rw [hP]; kernel_rfl) rfl (rdStrs hsh hF (by rw [hP]; exact Tryd.underlying22) (by rw [hP]; exact Tryd.underlying9) (by rw [hP]; kernel_rfl)) rdEnd))))) (fun p => ⟨p.1, p.2.1, p.2.2.1, p.2.2.2.1⟩) ?_ ?_
  · intro a _; rfl
  · rintro ⟨a, b, c, d, _⟩ ⟨h1, h2, h3, h4, _⟩; exact ⟨h1, h2, h4.2⟩
theorem rdActs {H : Type} {X : Cx H} (hP : X.P = Tryd.prog) (hsh : X.w.ShapedOpen Tryd.prog) (hF : X.F = Fr (heldAs X.w 3) X.w) : Reads X 36 (fun l : List Act => [.vs 4 (l.map Act.enc)]) (fun l => l.length ≤ maxLen ∧ ∀ a ∈ l, a.good X.L) := by
  refine rdSlice (e := 44) (by rw [hP]; exact Tryd.underlying36) (by rw [hP]; kernel_rfl) (by decide) (fun _ => rfl) (rdAct hP hsh hF) ?_
  intro a b off cs _ hr hc
  rw [hF] at hr ⊢
  exact fr_cell hsh hr hc 1 rfl no_str
theorem sums_calls {w : World} (hG : Glob w) {l : List Act} {v0 : Value} (h0 : RepL w (Fr (heldAs w 3) w) [.vs 4 (l.map Act.enc)] [v0]) (g0 : ∀ a ∈ l, a.good 1048576) :
    Calls Tryd.prog 6 #[v0] w fun e w' => e = .returned (.bool true) ∧ Below w.heap.size w w' :=
  AC.law (argv := [_]) (sums_c (glob_held hG) (Sub.refl _) l (fun a ha => (g0 a ha).ok)) Tryd.func6 rfl rfl h0
end Go.Abs
/- The law SymtabHolds, as a row calls it. -/
namespace Go.Abs
set_option linter.unusedSimpArgs false
set_option linter.unusedVariables false
open Go.Proofs Go.RowKit Go.Lib Go.Proofs.YtephimncnnogfaaDoor Go.Proofs.YtephimncnnogfaaDoorW.PrintWords
set_option linter.unusedVariables false
set_option linter.unusedSectionVars false
theorem holds_calls {w : World} (hG : Glob w) {l : List Act} {ns : List ByteArray} {v0 v1 : Value} (h0 : RepL w (Fr (heldAs w 3) w) [.vs 4 (l.map Act.enc)] [v0]) (g0 : ∀ a ∈ l, a.good 1048576) (h1 : RepL w (Fr (heldAs w 3) w) [.vs 1 (ns.map s1)] [v1]) (g1 : ns.length ≤ maxLen ∧ ∀ s ∈ ns, s.size ≤ 1048576) :
    Calls Tryd.prog 5 #[v0, v1] w fun e w' => e = .returned (.bool true) ∧ Below w.heap.size w w' :=
  AC.law (argv := [_, _]) (holds_c (glob_held hG) (Sub.refl _) l (fun a ha => (g0 a ha).ok) ns (fun s hs => by have := g1.2 s hs; unfold few; omega)) Tryd.func5 rfl rfl (repL_append h0 h1)
end Go.Abs
/- What modules export: a fork; a table that is not there. -/
namespace Go.Proofs
open Go.Shelf Go.RowKit Go.Lib
def Tryd.cloneB_ren : Go.Shelf.Ren := ⟨fun | 5 => 41 | 7 => 52 | n => n, fun | 23 => 55 | 25 => 9 | 3 => 4 | 4 => 4 | 20 => 20 | n => n, fun | n => n⟩
theorem Tryd.cloneB : Go.Proofs.SlLaysW.n5 Tryd.prog Tryd.cloneB_ren := {
  mixed := by kernel_rfl
  f5 := ⟨Tryd.f41.name, by decide, Tryd.func41.trans (congrArg some (by kernel_rfl))⟩
  f7 := Tryd.func52.trans (congrArg some (by kernel_rfl))
  t4 := Tryd.underlying4
  a4 := Tryd.isAgg4
  z4 := Tryd.sizeOf4
  v4 := Tryd.zeroValue4
  t20 := Tryd.underlying20
  a20 := Tryd.isAgg20
  z20 := Tryd.sizeOf20
  v20 := Tryd.zeroValue20
  t23 := Tryd.underlying55
  a23 := Tryd.isAgg55
  z23 := Tryd.sizeOf55
  v23 := Tryd.zeroValue55 }
def Tryd.cloneE_ren : Go.Shelf.Ren := ⟨fun | 5 => 42 | 7 => 52 | n => n, fun | 23 => 56 | 25 => 9 | 3 => 33 | 4 => 4 | 20 => 20 | n => n, fun | n => n⟩
theorem Tryd.cloneE : Go.Proofs.SlLaysW.n5 Tryd.prog Tryd.cloneE_ren := {
  mixed := by kernel_rfl
  f5 := ⟨Tryd.f42.name, by decide, Tryd.func42.trans (congrArg some (by kernel_rfl))⟩
  f7 := Tryd.func52.trans (congrArg some (by kernel_rfl))
  t4 := Tryd.underlying4
  a4 := Tryd.isAgg4
  z4 := Tryd.sizeOf4
  v4 := Tryd.zeroValue4
  t20 := Tryd.underlying20
  a20 := Tryd.isAgg20
  z20 := Tryd.sizeOf20
  v20 := Tryd.zeroValue20
  t23 := Tryd.underlying56
  a23 := Tryd.isAgg56
  z23 := Tryd.sizeOf56
  v23 := Tryd.zeroValue56 }
end Go.Proofs
namespace Go.Abs
set_option linter.unusedSimpArgs false
set_option linter.unusedVariables false
set_option maxHeartbeats 4000000
open Go.Proofs Go.Nm Go.Wd
set_option linter.unusedVariables false
set_option linter.unusedSectionVars false
set_option maxRecDepth 8000
variable {H : Heap}
theorem clone_ac {P : Program} {ρ : Shelf.Ren} (L : SlLaysW.n5 P ρ) {fn : Func} (hF : P.funcs[ρ.f 5]? = some fn) (hFb : fn.body.isNone = false) (hFn : (fn.name == "runtime.NumGoroutine") = false) {b : Nat} {es : List (Value × TV)} (hb : H b = some (.map es)) :
    AC P (ρ.f 5) [.s (.map (some b))] H (fun r H' => ∃ b', H b' = none ∧ r = .s (.map (some b')) ∧ H' = upd H b' (.map es)) := by
  refine AC.intro hF hFb hFn fun argv w ha hh => ?_
  obtain ⟨y0, rfl, r0⟩ := repL_one1 ha
  simp only [Rep] at r0
  subst r0
  obtain ⟨ms, clock, h1, h2, h3, h4⟩ := hh b _ hb
  refine Calls.mono (AnyW.maps_Clone L b ms clock w h1) fun e w' ⟨he, hw⟩ => ?_
  obtain ⟨k0, k1, k2⟩ := alloc_rel (r := .map es) (o := .map ms clock) hh fun w' F' hF hs ho => ⟨ms, clock, ho, RepM.mono hF hs _ _ h2, h3, h4⟩
  subst hw
  exact ⟨_, he, _, _, ⟨w.heap.size, k0, rfl, rfl⟩, by simp only [Rep], k1, k2⟩
theorem cloneB_c {b : Nat} {l : List ByteArray} (hb : H b = some (setR strV l)) : AC Tryd.prog 41 [.s (.map (some b))] H (fun r H' => ∃ b', H b' = none ∧ r = .s (.map (some b')) ∧ H' = upd H b' (setR strV l)) :=
  clone_ac Tryd.cloneB Tryd.func41 rfl rfl hb
theorem cloneE_c {b : Nat} {l : List (ByteArray × Ent)} (hb : H b = some (entR l)) : AC Tryd.prog 42 [.s (.map (some b))] H (fun r H' => ∃ b', H b' = none ∧ r = .s (.map (some b')) ∧ H' = upd H b' (entR l)) :=
  clone_ac Tryd.cloneE Tryd.func42 rfl rfl hb
theorem fork_c {t mb eb : Nat} {S : Sym} (hS : SymAt H t mb eb S) : AC Tryd.prog 23 [.s (.pointer (some ⟨t, 0, none⟩))] H (fun r H' => ∃ t' mb' eb', r = .s (.pointer (some ⟨t', 0, none⟩)) ∧ H t' = none ∧ H mb' = none ∧ H eb' = none ∧ t' ≠ mb' ∧ t' ≠ eb' ∧ mb' ≠ eb' ∧
      H' = upd (upd (upd H mb' (setR strV S.mods)) eb' (entR S.ents)) t' (.cells [.s (.map (some mb')), .s (.map (some eb'))])) := by
  refine AC.body Tryd.func23 rfl rfl (n := 17) (res := [.tmp 2]) rfl rfl (by simp) ?_
  simp only [ent]
  obtain ⟨h1, h2, h3⟩ := hS
  have C1 := cloneB_c h2
  have C2 := fun (b : Nat) (hb : H b = none) => cloneE_c (H := upd H b (setR strV S.mods)) (b := eb) (l := S.ents) (by rw [upd_eq, if_neg (by rintro rfl; rw [h3] at hb; cases hb)]; exact h3)
  (repeat' (first | refine wk ?_ | refine wk2 ?_ ?_ | with_reducible refine wkF fun _ _ _ => ?_ | with_reducible intro _ | exact ag | fail))
  refine ARun.drawT mixed [0, 1, 2, 3, 5, 6, 7, 8] (.alt 4 [0, 1, 2, 5, 6, 7, 8] [] (.alt 9 [0, 1, 2, 3, 5, 6, 7] [10] (.alt 11 [0, 1, 2, 3, 5, 6, 7, 8] [12] .leaf .nil) .nil) .nil) (by kernel_rfl) (by rfl) ?_
  all_goals
    (repeat' (first | refine wk ?_ | refine wk2 ?_ ?_ | with_reducible refine wkF fun _ _ _ => ?_ | with_reducible intro _ | refine Calling.fresh (C1) fun _ _ _ => ?_ | exact ag | fail))
    rename_i mb' hm hmn
    have C2' := C2 mb' hm
    (repeat' (first | refine wk ?_ | refine wk2 ?_ ?_ | with_reducible refine wkF fun _ _ _ => ?_ | with_reducible intro _ | refine Calling.fresh (C2') fun _ _ _ => ?_ | exact ag | fail))
    rename_i eb' he hen t' ht htn
    have g2 := Sub.gone (H := H) (Sub.upd (Sub.refl H) hm) he
    have g3 := Sub.gone (H := H) (Sub.upd (Sub.upd (Sub.refl H) hm) g2) ht
    have n1 : eb' ≠ t' := none_at ht (upd_self _ _ _)
    have n2 : mb' ≠ eb' := none_at he (upd_self _ _ _)
    have n3 : mb' ≠ t' := none_at ht (r := setR strV S.mods) (by rw [upd_eq, if_neg n2]; exact upd_self _ _ _)
    refine fin1 ⟨t', mb', eb', ?_, g3, hm, g2, n3.symm, n1.symm, n2, rfl⟩
    rfl
/-- A table that stands in a memory, as the laws see it. -/
theorem STab.of {G K : Heap} (g : GH G) (hs : Sub G K) {t mb eb : Nat} {S : Sym} (h : SymAt K t mb eb S) (n1 : t ≠ mb) (n2 : t ≠ eb) (n3 : mb ≠ eb) : ∃ H HS, Sub G H ∧ Sub H K ∧ STab H t mb eb HS ∧ HS S = K := by
  have gm : ∀ b r, G b = some r → b ≠ mb ∧ b ≠ eb := fun b r hb => by
    obtain ⟨o, ho⟩ := g.exact b (by rw [hb]; simp)
    have hk := hs b _ ho
    constructor <;> rintro rfl
    · rw [h.mod] at hk; cases hk
    · rw [h.ent] at hk; cases hk
  refine ⟨fun b => if b = mb then none else if b = eb then none else K b, fun S' => upd (upd K mb (setR strV S'.mods)) eb (entR S'.ents), ?_, ?_, ⟨fun S' => ?_, fun S' => ⟨?_, ?_, ?_⟩, fun S1 S2 => ?_, n1, n2, n3⟩, ?_⟩
  · intro b r hb
    obtain ⟨a1, a2⟩ := gm b r hb
    simp only [if_neg a1, if_neg a2]; exact hs b r hb
  · intro b r hb
    simp only [] at hb
    split at hb
    · cases hb
    · split at hb
      · cases hb
      · exact hb
  · intro b r hb
    simp only [] at hb
    split at hb
    · cases hb
    · split at hb
      · cases hb
      · rename_i a1 a2
        simp only [upd_eq, if_neg a1, if_neg a2]; exact hb
  · simp only [upd_eq, if_neg n1, if_neg n2]; exact h.tab
  · simp only [upd_eq, if_neg n3, if_true]
  · simp only [upd_eq, if_true]
  · funext x
    simp only [upd_eq]
    by_cases x1 : x = eb
    · subst x1; simp only [if_true]
    · simp only [if_neg x1]
      by_cases x2 : x = mb
      · subst x2; simp only [if_true]
      · simp only [if_neg x2]
  · simp only []
    rw [upd_same h.mod, upd_same h.ent]
/- A table that is not there. -/
theorem findN_c (s : ByteArray) (H : Heap) : AC Tryd.prog 18 [.s (.pointer none), .s (.string s)] H (fun r H' => r = .tup [.agg Ent.zero.enc, .s (.int .i64 1)] ∧ H' = H) := by
  refine AC.body Tryd.func18 rfl rfl (n := 24) (res := [.cell 4 33, .tmp 5]) rfl rfl (by simp) ?_
  simp only [ent]
  (repeat' (first | refine wk ?_ | refine wk2 ?_ ?_ | with_reducible refine wkF fun _ _ _ => ?_ | with_reducible intro _ | exact ag | fail))
  exact fin0
theorem addN_c (s : ByteArray) (g : Int) (H : Heap) : AC Tryd.prog 10 [.s (.pointer none), .s (.string s), .s (.int .i64 g), .nils] H (fun r H' => r = .s (.int .i64 1) ∧ H' = H) := by
  refine AC.body Tryd.func10 rfl rfl (n := 88) (res := [.tmp 8]) rfl rfl (by simp) ?_
  simp only [ent]
  (repeat' (first | refine wk ?_ | refine wk2 ?_ ?_ | with_reducible refine wkF fun _ _ _ => ?_ | with_reducible intro _ | exact ag | fail))
  exact fin0
theorem remN_c (s : ByteArray) (H : Heap) : AC Tryd.prog 19 [.s (.pointer none), .s (.string s)] H (fun r H' => r = .s (.int .i64 1) ∧ H' = H) := by
  refine AC.body Tryd.func19 rfl rfl (n := 32) (res := [.tmp 4]) rfl rfl (by simp) ?_
  simp only [ent]
  (repeat' (first | refine wk ?_ | refine wk2 ?_ ?_ | with_reducible refine wkF fun _ _ _ => ?_ | with_reducible intro _ | exact ag | fail))
  exact fin0
theorem countN_c (by_ : Int) (H : Heap) : AC Tryd.prog 38 [.s (.pointer none), .nils, .s (.int .i64 by_)] H (fun r H' => r = .s (.int .i64 1) ∧ H' = H) := by
  refine AC.body Tryd.func38 rfl rfl (n := 61) (res := [.tmp 6]) rfl rfl (by simp) ?_
  simp only [ent]
  (repeat' (first | refine wk ?_ | refine wk2 ?_ ?_ | with_reducible refine wkF fun _ _ _ => ?_ | with_reducible intro _ | exact ag | fail))
  exact fin0
theorem holdN_c (H : Heap) : AC Tryd.prog 17 [.s (.pointer none), .nils] H (fun r H' => r = .s (.int .i64 1) ∧ H' = H) := by
  refine AC.body Tryd.func17 rfl rfl (n := 8) (res := [.tmp 4]) rfl rfl (by simp) ?_
  simp only [ent]
  have C := fun H => countN_c 1 H
  (repeat' (first | refine wk ?_ | refine wk2 ?_ ?_ | with_reducible refine wkF fun _ _ _ => ?_ | with_reducible intro _ | refine Calling.eq (C _) ?_ | exact ag | fail))
  exact fin0
theorem dropN_c (H : Heap) : AC Tryd.prog 20 [.s (.pointer none), .nils] H (fun r H' => r = .s (.int .i64 1) ∧ H' = H) := by
  refine AC.body Tryd.func20 rfl rfl (n := 8) (res := [.tmp 4]) rfl rfl (by simp) ?_
  simp only [ent]
  have C := fun H => countN_c (-1) H
  (repeat' (first | refine wk ?_ | refine wk2 ?_ ?_ | with_reducible refine wkF fun _ _ _ => ?_ | with_reducible intro _ | refine Calling.eq (C _) ?_ | exact ag | fail))
  exact fin0
theorem refsN_c (s : ByteArray) (H : Heap) : AC Tryd.prog 22 [.s (.pointer none), .s (.string s)] H (fun r H' => r = .s (.int .i64 0) ∧ H' = H) := by
  refine AC.body Tryd.func22 rfl rfl (n := 28) (res := [.tmp 4]) rfl rfl (by simp) ?_
  simp only [ent]
  (repeat' (first | refine wk ?_ | refine wk2 ?_ ?_ | with_reducible refine wkF fun _ _ _ => ?_ | with_reducible intro _ | exact ag | fail))
  exact fin0
theorem hasN_c (s : ByteArray) (H : Heap) : AC Tryd.prog 21 [.s (.pointer none), .s (.string s)] H (fun r H' => r = .s (.bool false) ∧ H' = H) := by
  refine AC.body Tryd.func21 rfl rfl (n := 15) (res := [.tmp 4]) rfl rfl (by simp) ?_
  simp only [ent]
  (repeat' (first | refine wk ?_ | refine wk2 ?_ ?_ | with_reducible refine wkF fun _ _ _ => ?_ | with_reducible intro _ | exact ag | fail))
  exact fin0
theorem listN_c (H : Heap) : AC Tryd.prog 11 [.s (.pointer none)] H (fun r H' => r = .nils ∧ H' = H) := by
  refine AC.body Tryd.func11 rfl rfl (n := 24) (res := [.tmp 2]) rfl rfl (by simp) ?_
  simp only [ent]
  (repeat' (first | refine wk ?_ | refine wk2 ?_ ?_ | with_reducible refine wkF fun _ _ _ => ?_ | with_reducible intro _ | exact ag | fail))
  exact fin0
theorem forkN_c (H : Heap) : AC Tryd.prog 23 [.s (.pointer none)] H (fun r H' => r = .s (.pointer none) ∧ H' = H) := by
  refine AC.body Tryd.func23 rfl rfl (n := 17) (res := [.tmp 2]) rfl rfl (by simp) ?_
  simp only [ent]
  (repeat' (first | refine wk ?_ | refine wk2 ?_ ?_ | with_reducible refine wkF fun _ _ _ => ?_ | with_reducible intro _ | exact ag | fail))
  exact fin0
end Go.Abs
