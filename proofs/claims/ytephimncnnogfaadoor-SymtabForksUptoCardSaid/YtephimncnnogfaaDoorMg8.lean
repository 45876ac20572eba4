import Derived.Test.YtephimncnnogfaaDoorMg7
/- The law SymtabForks. -/
namespace Go.Abs
set_option linter.unusedSimpArgs false
set_option linter.unusedVariables false
set_option maxHeartbeats 4000000
open Go.Proofs Go.Nm Go.Wd
set_option linter.unusedVariables false
set_option linter.unusedSectionVars false
set_option maxRecDepth 8000
variable {H : Heap}
theorem ARun.midE {P : Program} {n : Nat} {Z : AS → Prop} {c : Code} {k : List Item} {A : AS} {ι : Type} (I : ι → Prop) (B : ι → AS) (h : ∀ i, I i → ARun P n Z k (B i)) (g : ∀ k', Later (∀ i, I i → ARun P n Z k' (B i)) → ARun P n Z (.code c :: k') A) : ARun P n Z (.code c :: k) A := g k h
structure Forked where
  K : Heap
  t : Nat
  mb : Nat
  eb : Nat
  r : Nat
/-- What stands behind a fork, beside what stood in K1. -/
structure ForkedOk (K1 : Heap) (S : Sym) (cs : List TV) (f : Forked) : Prop where
  sub : Sub K1 f.K
  at_ : SymAt f.K f.t f.mb f.eb S
  ref : f.K f.r = some (.cells cs)
  ft : K1 f.t = none
  fm : K1 f.mb = none
  fe : K1 f.eb = none
  fr : K1 f.r = none
  n1 : f.t ≠ f.mb
  n2 : f.t ≠ f.eb
  n3 : f.mb ≠ f.eb
  n4 : f.r ≠ f.t
theorem fork_sub {K : Heap} {S : Sym} {t mb eb : Nat} (fm : K mb = none) (fe : K eb = none) (ft : K t = none) : Sub K (upd (upd (upd K mb (setR strV S.mods)) eb (entR S.ents)) t (.cells [.s (.map (some mb)), .s (.map (some eb))])) := Sub.upd (Sub.upd (Sub.upd (Sub.refl K) fm) fe) ft
theorem fork_at {K : Heap} {S : Sym} {t mb eb : Nat} (m1 : t ≠ mb) (m2 : t ≠ eb) (m3 : mb ≠ eb) : SymAt (upd (upd (upd K mb (setR strV S.mods)) eb (entR S.ents)) t (.cells [.s (.map (some mb)), .s (.map (some eb))])) t mb eb S :=
  ⟨upd_self _ _ _, by rw [upd_eq, if_neg m1.symm, upd_eq, if_neg m3]; exact upd_self _ _ _, by rw [upd_eq, if_neg m2.symm]; exact upd_self _ _ _⟩
theorem SymAt.set {K : Heap} {t mb eb : Nat} {S : Sym} (h : SymAt K t mb eb S) {b : Nat} (b1 : b ≠ t) (b2 : b ≠ mb) (b3 : b ≠ eb) (r : Root) : SymAt (upd K b r) t mb eb S :=
  ⟨by rw [upd_eq, if_neg b1.symm]; exact h.tab, by rw [upd_eq, if_neg b2.symm]; exact h.mod, by rw [upd_eq, if_neg b3.symm]; exact h.ent⟩
theorem sub_set {K1 K : Heap} (h : Sub K1 K) {b : Nat} (hb : K1 b = none) (r : Root) : Sub K1 (upd K b r) := fun p q hp => by
  rw [upd_eq, if_neg (by rintro rfl; rw [hp] at hb; cases hb)]; exact h p q hp
theorem STab.put {H : Heap} {t mb eb : Nat} {HS : Sym → Heap} (T : STab H t mb eb HS) {b : Nat} (b1 : b ≠ t) (b2 : b ≠ mb) (b3 : b ≠ eb) (r : Root) : STab (fun x => if x = b then none else H x) t mb eb (fun S => upd (HS S) b r) := by
  refine ⟨fun S p q hp => ?_, fun S => (T.tab S).set b1 b2 b3 r, fun S S' => ?_, T.n1, T.n2, T.n3⟩
  · split at hp
    · cases hp
    · rename_i h; rw [upd_eq, if_neg h]; exact T.sub S p q hp
  · show upd (upd (upd (HS S) b r) mb _) eb _ = upd (HS S') b r
    rw [← T.set S S', upd_comm b2, upd_comm b3]
theorem SymAt.sub {K K' : Heap} {t mb eb : Nat} {S : Sym} (h : SymAt K t mb eb S) (hs : Sub K K') : SymAt K' t mb eb S := ⟨hs _ _ h.tab, hs _ _ h.mod, hs _ _ h.ent⟩
theorem same_at {G K : Heap} (g : GH G) (hs : Sub G K) {t mb eb : Nat} {S : Sym} {R : RSym} (h : SymAt K t mb eb S) (n1 : t ≠ mb) (n2 : t ≠ eb) (n3 : mb ≠ eb) {n : Nat} (tw : Tw S R n) (hn : n ≤ 900) :
    AC Tryd.prog 16 [.s (.pointer (some ⟨t, 0, none⟩)), R.tv, .agg [.s (.int .u8 0), .s (.string ⟨#[]⟩), .s (.int .i64 0), .nils]] K (fun r H' => r = .s (.bool true) ∧ H' = K) := by
  obtain ⟨H2, HS2, s1_, s2_, T, e⟩ := STab.of g hs h n1 n2 n3
  have h := sameT_c13 g s1_ T tw hn ⟨0, ⟨#[]⟩, 0, []⟩ (by simp)
  rw [e] at h
  exact h.drop (Sub.refl _) (.cons (Conv.refl (Sub.refl _) _) (.cons (Conv.refl (Sub.refl _) _) (.cons (.agg (.cons (Conv.refl (Sub.refl _) _) (.cons (Conv.refl (Sub.refl _) _) (.cons (Conv.refl (Sub.refl _) _) (.cons conv_nils .nil))))) .nil)))
def a0 : Act := ⟨0, "".toUTF8, 0, []⟩
set_option maxHeartbeats 8000000 in
theorem forks_c {G : Heap} (g : GH G) (hs : Sub G H) (l m : List Act) (hok : ∀ a ∈ l, a.ok) (hom : ∀ a ∈ m, a.ok) :
    AC Tryd.prog 8 [.vs 4 (l.map Act.enc), .vs 4 (m.map Act.enc)] H (fun r H' => r = .s (.bool true) ∧ H' = H) := by
  refine AC.body Tryd.func8 rfl rfl (n := 130) (res := [.tmp 4]) rfl rfl (by simp) ?_
  simp only [ent]
  have F := fun H => fewA_c l H
  have F2 := fun H => fewA_c m H
  have W := fun (K : Heap) (hq : Sub G K) => awakeS_c (H := K) g hq
  replace g := later g
  replace hs := later hs
  cases q : fewB l with
  | false =>
    rw [q] at F
    have W1 := W H hs.go
    clear hok hom W
    (repeat' (first | refine wk ?_ | refine wk2 ?_ ?_ | with_reducible refine wkF fun _ _ _ => ?_ | with_reducible intro _ | refine Calling.eq (F _) ?_ | refine Calling.eq (W1) ?_ | exact ag | fail))
    exact fin0
  | true =>
    cases q2 : fewB m with
    | false =>
      rw [q] at F
      rw [q2] at F2
      have W1 := W H hs.go
      clear hok hom W
      (repeat' (first | refine wk ?_ | refine wk2 ?_ ?_ | with_reducible refine wkF fun _ _ _ => ?_ | with_reducible intro _ | refine Calling.eq (F _) ?_ | refine Calling.eq (F2 _) ?_ | refine Calling.eq (W1) ?_ | exact ag | fail))
      exact fin0
    | true =>
      obtain ⟨hl, hns⟩ := fewB_len q
      obtain ⟨hml, hmns⟩ := fewB_len q2
      rw [q] at F
      rw [q2] at F2
      replace W := later W
      replace hok := later hok
      replace hns := later hns
      replace hom := later hom
      replace hmns := later hmns
      clear q q2
      (repeat' (first | refine wk ?_ | refine wk2 ?_ ?_ | with_reducible refine wkF fun _ _ _ => ?_ | with_reducible intro _ | refine Calling.eq (F _) ?_ | refine Calling.eq (F2 _) ?_ | exact ag | fail))
      refine Calling.by (newT_c H) ?_
      rintro _ _ ⟨t, mb, eb, HS, T, rfl, rfl⟩
      (repeat' (first | refine wk ?_ | refine wk2 ?_ ?_ | with_reducible refine wkF fun _ _ _ => ?_ | with_reducible intro _ | exact ag | fail))
      rename_i r hr hrn
      have hrS := T.gone hr
      have hsub := T.sub
      have T' := fun c => T.up ⟨_, hr⟩ (.cells c)
      refine ARun.recell r [.vs 1 [], .vs 5 []] (upd_self _ _ _) rfl (.cons conv_nils (.cons conv_nils .nil)) ?_
      rw [upd_upd]
      replace T := later T
      replace T' := later T'
      replace hsub := later hsub
      clear hr hrn F F2
      refine ARun.rounds (fun i : Nat => ⟨[(0, .vs 4 (l.map Act.enc)), (1, .vs 4 (m.map Act.enc)), (5, .s (.pointer (some ⟨t, 0, none⟩))), (6, .s (.pointer (some ⟨r, 0, none⟩))), (7, .s (.int .i64 i))], upd (HS (acts (l.take i) B0).S) r (.cells [.vs 1 ((acts (l.take i) B0).R.mods.map s1), .vs 5 ((acts (l.take i) B0).R.l.map Ent.enc)])⟩)
        (fun i => l.length - i) (fun i => i ≤ l.length) ?_ 0 (by omega) ?_
      · rintro i hi next
        have e0 : (0 : Int) ≤ i := by omega
        obtain ⟨tw, mi⟩ := acts_tw hok.go (B := B0) .nil .nil hi (by omega)
        by_cases hlt : i < l.length
        · have e1 : (i : Int) < l.length := by omega
          obtain ⟨x, hx⟩ := at_ hlt
          have hx2 := vget Act.enc hx
          rw [Act.enc_def x] at hx2
          have hw := w64s (i := i) (by omega)
          have nx := next.go (i + 1) (by omega) (by omega)
          rw [acts_snoc hx] at nx
          have D := fun c => do_c g.go hs.go (T'.go c) tw (by omega) (hok.go x (List.mem_of_getElem? hx)) (by have := hns.go x (List.mem_of_getElem? hx); omega)
          simp only [RSym.tv_def, Act.enc_def] at D
          replace nx := later nx
          clear next hx tw mi
          generalize acts (l.take i) B0 = B at *
          generalize x.S B.S = S' at *
          generalize x.R B.R = R' at *
          (repeat' (first | refine wk ?_ | refine wk2 ?_ ?_ | with_reducible refine wkF fun _ _ _ => ?_ | with_reducible intro _ | exact ag | fail))
          refine ARun.drawT mixed [0, 1, 2, 3, 4, 5] (.alt 6 [2, 3, 4] [7, 8, 9] (.alt 10 [9] [] .leaf .nil) .nil) (by kernel_rfl) (by rfl) ?_
          (repeat' (first | refine wk ?_ | refine wk2 ?_ ?_ | with_reducible refine wkF fun _ _ _ => ?_ | with_reducible intro _ | refine Calling.eq (D _) ?_ | exact ag | fail))
          exact ARun.weaken nx.go (leK (Sub.refl _))
        · have e1 : decide ((i : Int) < l.length) = false := by simp; omega
          obtain rfl : i = l.length := by omega
          clear next
          generalize acts (l.take l.length) B0 = B at *
          have hn : 0 + l.length ≤ 900 := by omega
          have T1 := T'.go [.vs 1 (B.R.mods.map s1), .vs 5 (B.R.l.map Ent.enc)]
          have hS2 : Sub H (upd (HS B.S) r (.cells [.vs 1 (B.R.mods.map s1), .vs 5 (B.R.l.map Ent.enc)])) := Sub.upd (hsub.go B.S) ((hsub.go B.S).gone (hrS _))
          have at1 : SymAt (upd (HS B.S) r (.cells [.vs 1 (B.R.mods.map s1), .vs 5 (B.R.l.map Ent.enc)])) t mb eb B.S := T1.tab B.S
          have kr1 : upd (HS B.S) r (.cells [.vs 1 (B.R.mods.map s1), .vs 5 (B.R.l.map Ent.enc)]) r = some (.cells [.vs 1 (B.R.mods.map s1), .vs 5 (B.R.l.map Ent.enc)]) := upd_self _ _ _
          have n1 := T1.n1
          have n2 := T1.n2
          have n3 := T1.n3
          clear T T1 T'
          generalize upd (HS B.S) r (.cells [.vs 1 (B.R.mods.map s1), .vs 5 (B.R.l.map Ent.enc)]) = K1 at *
          clear hrS hsub
          replace tw := later tw
          replace mi := later mi
          have hsK := hs.go.trans hS2
          replace hsK := later hsK
          replace at1 := later at1
          have FK := fork_c at1.go
          (repeat' (first | refine wk ?_ | refine wk2 ?_ ?_ | with_reducible refine wkF fun _ _ _ => ?_ | with_reducible intro _ | exact ag | fail))
          refine ARun.midE (ForkedOk K1 B.S [.vs 1 (B.R.mods.map s1), .vs 5 (B.R.l.map Ent.enc)]) (fun f => ⟨[(0, .vs 4 (l.map Act.enc)), (1, .vs 4 (m.map Act.enc)), (5, .s (.pointer (some ⟨t, 0, none⟩))), (6, .s (.pointer (some ⟨r, 0, none⟩))), (8, .s (.pointer (some ⟨f.t, 0, none⟩))), (9, .s (.pointer (some ⟨f.r, 0, none⟩))), (10, .s (.bool true))], f.K⟩) ?_ fun k' nx => ?_
          · rintro ⟨K2, t2, mb2, eb2, r2⟩ ⟨f1, f2, f3, f4, f5, f6, f7, f8, f9, f10, f11⟩
            simp only [] at f1 f2 f3 f4 f5 f6 f7 f8 f9 f10 f11 ⊢
            have q2 : r2 ≠ mb2 := by rintro rfl; rw [f2.mod] at f3; cases f3
            have q3 : r2 ≠ eb2 := by rintro rfl; rw [f2.ent] at f3; cases f3
            obtain ⟨H2, HS2, s1_, s2_, T2, e2⟩ := STab.of g.go (hsK.go.trans f1) f2 f8 f9 f10
            have T3 := fun c => T2.put f11 q2 q3 (.cells c)
            have s3 : Sub G (fun x => if x = r2 then none else H2 x) := fun p q hp => by
              have : p ≠ r2 := by rintro rfl; rw [hsK.go.gone f7] at hp; cases hp
              simp only [if_neg this]; exact s1_ p q hp
            have hall : ∀ S c, Sub K1 (upd (HS2 S) r2 c) := fun S c => by
              rw [← T2.set B.S S, e2]
              exact sub_set (sub_set (sub_set f1 f5 _) f6 _) f7 _
            have e3 : upd (HS2 (acts (m.take 0) B).S) r2 (.cells [.vs 1 ((acts (m.take 0) B).R.mods.map s1), .vs 5 ((acts (m.take 0) B).R.l.map Ent.enc)]) = K2 := by
              show upd (HS2 B.S) r2 (.cells [.vs 1 (B.R.mods.map s1), .vs 5 (B.R.l.map Ent.enc)]) = K2
              rw [e2]; exact upd_same f3
            rw [← e3]
            clear e3 e2 T2 s1_ s2_ f3 f2
            replace T3 := later T3
            replace s3 := later s3
            replace hall := later hall
            clear FK
            (repeat' (first | refine wk ?_ | refine wk2 ?_ ?_ | with_reducible refine wkF fun _ _ _ => ?_ | with_reducible intro _ | exact ag | fail))
            refine ARun.rounds (fun i : Nat => ⟨[(1, .vs 4 (m.map Act.enc)), (5, .s (.pointer (some ⟨t, 0, none⟩))), (6, .s (.pointer (some ⟨r, 0, none⟩))), (8, .s (.pointer (some ⟨t2, 0, none⟩))), (9, .s (.pointer (some ⟨r2, 0, none⟩))), (11, .s (.int .i64 i))], upd (HS2 (acts (m.take i) B).S) r2 (.cells [.vs 1 ((acts (m.take i) B).R.mods.map s1), .vs 5 ((acts (m.take i) B).R.l.map Ent.enc)])⟩)
              (fun i => m.length - i) (fun i => i ≤ m.length) ?_ 0 (by omega) ?_
            · rintro i hi next
              have e0 : (0 : Int) ≤ i := by omega
              obtain ⟨tw2, mi2⟩ := acts_tw hom.go (B := B) tw.go mi.go hi (by omega)
              by_cases hlt : i < m.length
              · have e1 : (i : Int) < m.length := by omega
                obtain ⟨x, hx⟩ := at_ hlt
                have hx2 := vget Act.enc hx
                rw [Act.enc_def x] at hx2
                have hw := w64s (i := i) (by omega)
                have nx := next.go (i + 1) (by omega) (by omega)
                rw [acts_snoc hx] at nx
                have D := fun c => do_c g.go s3.go (T3.go c) tw2 (by omega) (hom.go x (List.mem_of_getElem? hx)) (by have := hmns.go x (List.mem_of_getElem? hx); omega)
                simp only [RSym.tv_def, Act.enc_def] at D
                replace nx := later nx
                clear next hx tw2 mi2
                generalize acts (m.take i) B = B' at *
                generalize x.S B'.S = S' at *
                generalize x.R B'.R = R' at *
                (repeat' (first | refine wk ?_ | refine wk2 ?_ ?_ | with_reducible refine wkF fun _ _ _ => ?_ | with_reducible intro _ | exact ag | fail))
                refine ARun.drawT mixed [0, 1, 2, 3, 4, 5] (.alt 6 [2, 3, 4] [7, 8, 9] (.alt 10 [9] [11] .leaf .nil) .nil) (by kernel_rfl) (by rfl) ?_
                (repeat' (first | refine wk ?_ | refine wk2 ?_ ?_ | with_reducible refine wkF fun _ _ _ => ?_ | with_reducible intro _ | refine Calling.eq (D _) ?_ | exact ag | fail))
                exact ARun.weaken nx.go (leK (Sub.refl _))
              · have e1 : decide ((i : Int) < m.length) = false := by simp; omega
                obtain rfl : i = m.length := by omega
                clear next
                generalize acts (m.take m.length) B = B' at *
                have hn2 : 0 + l.length + m.length ≤ 900 := by omega
                have ha1 := (hall.go B'.S (.cells [.vs 1 (B'.R.mods.map s1), .vs 5 (B'.R.l.map Ent.enc)]))
                have at3 := at1.go.sub ha1
                have kr3 := ha1 _ _ kr1
                have at4 := (T3.go [.vs 1 (B'.R.mods.map s1), .vs 5 (B'.R.l.map Ent.enc)]).tab B'.S
                have kr4 := upd_self (HS2 B'.S) r2 (.cells [.vs 1 (B'.R.mods.map s1), .vs 5 (B'.R.l.map Ent.enc)])
                generalize upd (HS2 B'.S) r2 (.cells [.vs 1 (B'.R.mods.map s1), .vs 5 (B'.R.l.map Ent.enc)]) = K3 at *
                have W1 := fun c b (hb : K3 b = none) => W.go (upd K3 b (.cells c)) ((hsK.go.trans ha1).trans (Sub.upd (Sub.refl _) hb))
                have S1 := fun c b (hb : K3 b = none) => same_at g.go ((hsK.go.trans ha1).trans (Sub.upd (r := .cells c) (Sub.refl _) hb)) (at3.up hb (.cells c)) n1 n2 n3 tw.go hn
                have S2 := fun c b (hb : K3 b = none) => same_at g.go ((hsK.go.trans ha1).trans (Sub.upd (r := .cells c) (Sub.refl _) hb)) (at4.up hb (.cells c)) f8 f9 f10 tw2 hn2
                simp only [RSym.tv_def] at S1 S2
                have hS3 := hS2.trans ha1
                have N1 := fun H => findN_c ⟨#[97]⟩ H
                have N2 := fun H => addN_c ⟨#[97]⟩ 0 H
                have N3 := fun H => remN_c ⟨#[97]⟩ H
                have N4 := fun H => refsN_c ⟨#[97]⟩ H
                have N5 := fun H => hasN_c ⟨#[97]⟩ H
                replace W1 := later W1
                replace S1 := later S1
                replace S2 := later S2
                clear at3 at4 ha1 tw2 mi2
                (repeat' (first | refine wk ?_ | refine wk2 ?_ ?_ | with_reducible refine wkF fun _ _ _ => ?_ | with_reducible intro _ | refine Calling.eq (N1 _) ?_ | exact ag | fail))
                rename_i v hv hvn
                have W2 := W1.go Ent.zero.enc v hv
                have S1' := S1.go Ent.zero.enc v hv
                have S2' := S2.go Ent.zero.enc v hv
                clear N1
                (repeat' (first | refine wk ?_ | refine wk2 ?_ ?_ | with_reducible refine wkF fun _ _ _ => ?_ | with_reducible intro _ | refine Calling.eq (N2 _) ?_ | refine Calling.eq (N3 _) ?_ | refine Calling.eq (holdN_c _) ?_ | refine Calling.eq (dropN_c _) ?_ | refine Calling.eq (N4 _) ?_ | refine Calling.eq (N5 _) ?_ | refine Calling.eq (listN_c _) ?_ | refine Calling.eq (forkN_c _) ?_ | refine Calling.eq (S2') ?_ | refine Calling.eq (S1') ?_ | refine Calling.eq (W2) ?_ | exact ag | fail))
                exact Fin.plain agr (hS3.trans (Sub.upd (Sub.refl _) hv)) ⟨rfl, rfl⟩
            · exact leK (Sub.refl _)
          · refine ARun.drawT mixed [0, 2] (.alt 1 [2] [] (.alt 3 [0, 2] [4] (.alt 5 [] [6] .leaf .nil) .nil) (.alt 3 [0, 2] [] (.alt 1 [2] [4] (.alt 5 [] [6] .leaf .nil) .nil) .nil)) (by kernel_rfl) (by rfl) ?_
            (repeat' (first | refine wk ?_ | refine wk2 ?_ ?_ | with_reducible refine wkF fun _ _ _ => ?_ | with_reducible intro _ | exact ag | fail))
            · refine Calling.by FK ?_
              rintro _ _ ⟨t2, mb2, eb2, rfl, ft, fm, fe, m1, m2, m3, rfl⟩
              have g3 := fork_sub (S := B.S) fm fe ft
              have k2 := g3 _ _ kr1
              have at2 := fork_at (K := K1) (S := B.S) m1 m2 m3
              generalize upd (upd (upd K1 mb2 (setR strV B.S.mods)) eb2 (entR B.S.ents)) t2 (.cells [.s (.map (some mb2)), .s (.map (some eb2))]) = K2 at *
              replace at2 := later at2
              (repeat' (first | refine wk ?_ | refine wk2 ?_ ?_ | with_reducible refine wkF fun _ _ _ => ?_ | with_reducible intro _ | exact ag | fail))
              rename_i r2 hr2 hr2n
              have q1 : r2 ≠ t2 := by rintro rfl; rw [at2.go.tab] at hr2; cases hr2
              exact ARun.weaken (nx.go ⟨_, t2, mb2, eb2, r2⟩ ⟨sub_set g3 (g3.gone hr2) _, at2.go.up hr2 _, upd_self _ _ _, ft, fm, fe, g3.gone hr2, m1, m2, m3, q1⟩) (leK (Sub.refl _))
            · rename_i r2 hr2 hr2n
              have FK2 := fun c => fork_c (at1.go.up hr2 (.cells c))
              have k2 : ∀ c, upd K1 r2 (.cells c) r = some (.cells [.vs 1 (B.R.mods.map s1), .vs 5 (B.R.l.map Ent.enc)]) := fun c => (Sub.upd (Sub.refl K1) hr2) _ _ kr1
              (repeat' (first | refine wk ?_ | refine wk2 ?_ ?_ | with_reducible refine wkF fun _ _ _ => ?_ | with_reducible intro _ | exact ag | fail))
              refine Calling.by (FK2 _) ?_
              rintro _ _ ⟨t2, mb2, eb2, rfl, ft, fm, fe, m1, m2, m3, rfl⟩
              have g3 := fork_sub (S := B.S) fm fe ft
              have at2 := fork_at (K := upd K1 r2 (.cells [.nils, .nils])) (S := B.S) m1 m2 m3
              have k3 := g3 _ _ (k2 _)
              have k4 := g3 _ _ (upd_self K1 r2 (.cells [.nils, .nils]))
              generalize upd (upd (upd (upd K1 r2 (.cells [.nils, .nils])) mb2 (setR strV B.S.mods)) eb2 (entR B.S.ents)) t2 (.cells [.s (.map (some mb2)), .s (.map (some eb2))]) = K2 at *
              have q1 : r2 ≠ t2 := by rintro rfl; rw [upd_self] at ft; cases ft
              have q2 : r2 ≠ mb2 := by rintro rfl; rw [upd_self] at fm; cases fm
              have q3 : r2 ≠ eb2 := by rintro rfl; rw [upd_self] at fe; cases fe
              have g4 := Sub.trans (Sub.upd (Sub.refl K1) hr2) g3
              replace at2 := later at2
              clear FK FK2 k2
              (repeat' (first | refine wk ?_ | refine wk2 ?_ ?_ | with_reducible refine wkF fun _ _ _ => ?_ | with_reducible intro _ | exact ag | fail))
              exact ARun.weaken (nx.go ⟨_, t2, mb2, eb2, r2⟩ ⟨sub_set g4 hr2 _, at2.go.set q1 q2 q3 _, upd_self _ _ _, none_upd ft, none_upd fm, none_upd fe, hr2, m1, m2, m3, q1⟩) (leK (Sub.refl _))
      · exact leK (Sub.refl _)
end Go.Abs
/- The law SymtabForks, as a row calls it. -/
namespace Go.Abs
set_option linter.unusedSimpArgs false
set_option linter.unusedVariables false
open Go.Proofs Go.RowKit Go.Lib Go.Proofs.YtephimncnnogfaaDoor Go.Proofs.YtephimncnnogfaaDoorW.PrintWords
set_option linter.unusedVariables false
set_option linter.unusedSectionVars false
theorem forks_calls {w : World} (hG : Glob w) {l m : List Act} {v0 v1 : Value} (h0 : RepL w (Fr (heldAs w 3) w) [.vs 4 (l.map Act.enc)] [v0]) (g0 : ∀ a ∈ l, a.good 1048576) (h1 : RepL w (Fr (heldAs w 3) w) [.vs 4 (m.map Act.enc)] [v1]) (g1 : ∀ a ∈ m, a.good 1048576) :
    Calls Tryd.prog 8 #[v0, v1] w fun e w' => e = .returned (.bool true) ∧ Below w.heap.size w w' :=
  AC.law (argv := [_, _]) (forks_c (glob_held hG) (Sub.refl _) l m (fun a ha => (g0 a ha).ok) (fun a ha => (g1 a ha).ok)) Tryd.func8 rfl rfl (repL_append h0 h1)
end Go.Abs
