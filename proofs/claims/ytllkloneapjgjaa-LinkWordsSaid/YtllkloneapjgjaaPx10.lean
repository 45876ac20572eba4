-- WRITTEN BY bud.py (a program of this session's over the kit's print). Not trusted: Lean checks it.
import Derived.Test.YtllkloneapjgjaaPx0
import Derived.Test.YtllkloneapjgjaaPxf
import Derived.Test.YtllkloneapjgjaaPx2
import Derived.Test.YtllkloneapjgjaaPx4
import Derived.Test.YtllkloneapjgjaaPx9
import Derived.Test.YtllkloneapjgjaaLkIdx
namespace Go.Proofs.Ytllkloneapjgjaa.P
open Go.RowKit Go.Proofs.YtllkloneapjgjaaW.PrintWords Go.Proofs.YtllkloneapjgjaaW.PrintLast Go.Proofs.YtllkloneapjgjaaW.PrintMore
attribute [local go_sem] max2_int min2_int max_two min_two max_three min_three max_four min_four   -- for this text's walks alone
set_option linter.unusedVariables false
set_option linter.unusedSimpArgs false

attribute [local go_sem high] eqA66
/-! ### link_Word: function 7 -/
set_option maxHeartbeats 8000000 in
set_option maxRecDepth 100000 in
theorem link_Word.calls (k : Nat) (a0_0 : ByteArray) (A0_1 : Option Addr) (c0_1 : Nat) (l0_1 : List ByteArray) (A0_2 : Option Addr) (c0_2 : Nat) (l0_2 : List ByteArray) (A0_3 : Option Addr) (c0_3 : Nat) (l0_3 : List Int) (A0_4 : Option Addr) (c0_4 : Nat) (l0_4 : List Int) (A0_5 : Option Addr) (c0_5 : Nat) (l0_5 : List (S53)) (a1_0 : Int) (a1_1 : Int) (A2 : Option Addr) (c2 : Nat) (l2 : List Int) (a3 : Int) (r1 : Int) (r2 : Int) (w : World) (hr0_1 : Kd.C Kd.string w A0_1 l0_1.length l0_1) (hc0_1 : l0_1.length ≤ c0_1) (hr0_2 : Kd.C Kd.string w A0_2 l0_2.length l0_2) (hc0_2 : l0_2.length ≤ c0_2) (hr0_3 : Kd.C (Kd.int .u32) w A0_3 l0_3.length l0_3) (hc0_3 : l0_3.length ≤ c0_3) (hr0_4 : Kd.C (Kd.int .u32) w A0_4 l0_4.length l0_4) (hc0_4 : l0_4.length ≤ c0_4) (hr0_5 : Kd.C k53 w A0_5 l0_5.length l0_5) (hc0_5 : l0_5.length ≤ c0_5) (hr2 : Kd.C (Kd.int .u32) w A2 l2.length l2) (hc2 : l2.length ≤ c2) (h : link_Word.f k a0_0 l0_1 l0_2 l0_3 l0_4 l0_5 a1_0 a1_1 l2 a3 = some (r1, r2)) :
    Calls Try.prog 7 #[.agg #[.string a0_0, .slice A0_1 l0_1.length c0_1, .slice A0_2 l0_2.length c0_2, .slice A0_3 l0_3.length c0_3, .slice A0_4 l0_4.length c0_4, .slice A0_5 l0_5.length c0_5], .agg #[.int .u32 a1_0, .int .u32 a1_1], .slice A2 l2.length c2, .int .i64 a3] w fun e w' => e = .returned (.tuple #[.int .u32 r1, .int .i64 r2]) ∧ Below w.heap.size w w' := by
  have hu26 := Try.underlying26
  have hu29 := Try.underlying29
  have hu53 := Try.underlying53
  have HR0_1 := Aside0.mk hr0_1
  have HC0_1 := Aside0.mk hc0_1
  clear hr0_1 hc0_1
  have HR0_2 := Aside0.mk hr0_2
  have HC0_2 := Aside0.mk hc0_2
  clear hr0_2 hc0_2
  have HR0_3 := Aside0.mk hr0_3
  have HC0_3 := Aside0.mk hc0_3
  clear hr0_3 hc0_3
  have HR0_4 := Aside0.mk hr0_4
  have HC0_4 := Aside0.mk hc0_4
  clear hr0_4 hc0_4
  have HR0_5 := Aside0.mk hr0_5
  have HC0_5 := Aside0.mk hc0_5
  clear hr0_5 hc0_5
  have HR2 := Aside0.mk hr2
  have HC2 := Aside0.mk hc2
  clear hr2 hc2
  have HB := Aside0.mk (Below.refl w.heap.size w)
  have H : ((layout_Raw.f a0_0 l0_1 l0_2 l0_3 l0_4 l0_5 a3).bind fun t175 => ((layout_Spot.f a0_0 l0_1 l0_2 l0_3 l0_4 l0_5 a3).bind fun bt176 => ((idx_link_Word_1.f l0_5 bt176.2.1 bt176.1).bind fun t181 => (if bt176.2.2 = true then (link_Word.j0 k l2 t175 t181 (decide (t181 < 0)) a0_0 l0_1 l0_2 l0_3 l0_4 l0_5 a1_0 a1_1) else (link_Word.j0 k l2 t175 t181 true a0_0 l0_1 l0_2 l0_3 l0_4 l0_5 a1_0 a1_1))))) = some (r1, r2) := h
  clear h
  replace H := Option.bind_eq_some_iff.mp H
  obtain ⟨t175, A50, H⟩ := H
  replace H : ((layout_Spot.f a0_0 l0_1 l0_2 l0_3 l0_4 l0_5 a3).bind fun bt176 => ((idx_link_Word_1.f l0_5 bt176.2.1 bt176.1).bind fun t181 => (if bt176.2.2 = true then (link_Word.j0 k l2 t175 t181 (decide (t181 < 0)) a0_0 l0_1 l0_2 l0_3 l0_4 l0_5 a1_0 a1_1) else (link_Word.j0 k l2 t175 t181 true a0_0 l0_1 l0_2 l0_3 l0_4 l0_5 a1_0 a1_1)))) = some (r1, r2) := H
  have A5 := Aside0.mk A50
  clear A50
  replace H := Option.bind_eq_some_iff.mp H
  obtain ⟨⟨t176, t177, t178⟩, A60, H⟩ := H
  replace H : ((idx_link_Word_1.f l0_5 t177 t176).bind fun t181 => (if t178 = true then (link_Word.j0 k l2 t175 t181 (decide (t181 < 0)) a0_0 l0_1 l0_2 l0_3 l0_4 l0_5 a1_0 a1_1) else (link_Word.j0 k l2 t175 t181 true a0_0 l0_1 l0_2 l0_3 l0_4 l0_5 a1_0 a1_1))) = some (r1, r2) := H
  have A6 := Aside0.mk A60
  clear A60
  replace H := Option.bind_eq_some_iff.mp H
  obtain ⟨t181, A70, H⟩ := H
  replace H : (if t178 = true then (link_Word.j0 k l2 t175 t181 (decide (t181 < 0)) a0_0 l0_1 l0_2 l0_3 l0_4 l0_5 a1_0 a1_1) else (link_Word.j0 k l2 t175 t181 true a0_0 l0_1 l0_2 l0_3 l0_4 l0_5 a1_0 a1_1)) = some (r1, r2) := H
  have A7 := Aside0.mk A70
  clear A70
  have HC8 := Aside0.mk H
  clear H
  go_enter Try.func7, Try.ntmps7
  go_upto_region 4 with (first | ((with_reducible refine gate_dst (N := 4) rfl ?_); refine zX (N := 4) (cs := #[.string a0_0, .slice A0_1 l0_1.length c0_1, .slice A0_2 l0_2.length c0_2, .slice A0_3 l0_3.length c0_3, .slice A0_4 l0_4.length c0_4, .slice A0_5 l0_5.length c0_5]) (t := 26) ?_ ?_; (focus first | (go_simp; done) | (go_simp; rfl)); intro gb173 hg w9 hbox hb; have BK173 := Aside0.mk (hbox); have GW173 := Aside0.mk (zS hg : w.heap.size ≤ gb173); have GE173 := Aside0.mk (zS hg : w.heap.size ≤ gb173); replace HB := Aside0.mk (below_step zB hb); clear hb hbox hg) | ((with_reducible refine gate_dst (N := 5) rfl ?_); refine zX (N := 5) (cs := #[.int .u32 a1_0, .int .u32 a1_1]) (t := 29) ?_ ?_; (focus first | (go_simp; done) | (go_simp; rfl)); intro gb174 hg w10 hbox hb; have BK174 := Aside0.mk (hbox); have GW174 := Aside0.mk (zS hg : w.heap.size ≤ gb174); have GE174 := Aside0.mk (zS hg : w.heap.size ≤ gb174); have NB173_174 := Aside0.mk (zlt hg BK173 : gb173 ≠ gb174); have NB174_173 := Aside0.mk (zgt hg BK173 : gb174 ≠ gb173); replace BK173 := Aside0.mk (zL BK173 hb); replace HB := Aside0.mk (below_step zB hb); clear hb hbox hg; have hnb11 := NB173_174.out; have hnc11 := NB174_173.out; obtain ⟨hcz12_0, hcz12_1, hcz12_2, hcz12_3, hcz12_4, hcz12_5⟩ := zc6 BK173; obtain ⟨hfz12_0, hfz12_1, hfz12_2, hfz12_3, hfz12_4, hfz12_5⟩ := zf6 BK173) | ((with_reducible refine gate_callee (f := 14) rfl ?_); refine zG (some 19) Try.func14 #[.agg #[.string a0_0, .slice A0_1 l0_1.length c0_1, .slice A0_2 l0_2.length c0_2, .slice A0_3 l0_3.length c0_3, .slice A0_4 l0_4.length c0_4, .slice A0_5 l0_5.length c0_5], .int .i64 a3] ?_; (with_reducible refine (layout_Raw.calls a0_0 _ _ l0_1 _ _ l0_2 _ _ l0_3 _ _ l0_4 _ _ l0_5 a3 t175 _ ?side1 ?side2 ?side3 ?side4 ?side5 ?side6 ?side7 ?side8 ?side9 ?side10 A5.out).mono ?_); (case side1 => exact zC); (case side2 => exact HC0_1.out); (case side3 => exact zC); (case side4 => exact HC0_2.out); (case side5 => exact zC); (case side6 => exact HC0_3.out); (case side7 => exact zC); (case side8 => exact HC0_4.out); (case side9 => exact zC); (case side10 => exact HC0_5.out); rintro e w13 ⟨rfl, hb⟩; refine ⟨_, rfl, ?_⟩; replace BK173 := Aside0.mk (zL BK173 hb); replace BK174 := Aside0.mk (zL BK174 hb); replace HB := Aside0.mk (below_step zB hb); (try clear hb); (try clear hb2); (try clear hk); (try clear hi); obtain ⟨hcz14_0, hcz14_1, hcz14_2, hcz14_3, hcz14_4, hcz14_5⟩ := zc6 BK173; obtain ⟨hfz14_0, hfz14_1, hfz14_2, hfz14_3, hfz14_4, hfz14_5⟩ := zf6 BK173) | ((with_reducible refine gate_callee (f := 15) rfl ?_); refine zG (some 23) Try.func15 #[.agg #[.string a0_0, .slice A0_1 l0_1.length c0_1, .slice A0_2 l0_2.length c0_2, .slice A0_3 l0_3.length c0_3, .slice A0_4 l0_4.length c0_4, .slice A0_5 l0_5.length c0_5], .int .i64 a3] ?_; (with_reducible refine (layout_Spot.calls a0_0 _ _ l0_1 _ _ l0_2 _ _ l0_3 _ _ l0_4 _ _ l0_5 a3 t176 t177 t178 _ ?side1 ?side2 ?side3 ?side4 ?side5 ?side6 ?side7 ?side8 ?side9 ?side10 A6.out).mono ?_); (case side1 => exact zC); (case side2 => exact HC0_1.out); (case side3 => exact zC); (case side4 => exact HC0_2.out); (case side5 => exact zC); (case side6 => exact HC0_3.out); (case side7 => exact zC); (case side8 => exact HC0_4.out); (case side9 => exact zC); (case side10 => exact HC0_5.out); rintro e w15 ⟨rfl, hb⟩; refine ⟨_, rfl, ?_⟩; replace BK173 := Aside0.mk (zL BK173 hb); replace BK174 := Aside0.mk (zL BK174 hb); replace HB := Aside0.mk (below_step zB hb); (try clear hb); (try clear hb2); (try clear hk); (try clear hi)) | ((with_reducible refine gate_dst (N := 11) rfl ?_); refine zX (N := 11) (cs := #[.bool false]) (t := 4) ?_ ?_; (focus first | (go_simp; done) | (go_simp; rfl)); intro gb179 hg w16 hbox hb; have BK179 := Aside0.mk (hbox); have GW179 := Aside0.mk (zS hg : w.heap.size ≤ gb179); have GE179 := Aside0.mk (zS hg : w.heap.size ≤ gb179); have NB173_179 := Aside0.mk (zlt hg BK173 : gb173 ≠ gb179); have NB179_173 := Aside0.mk (zgt hg BK173 : gb179 ≠ gb173); have NB174_179 := Aside0.mk (zlt hg BK174 : gb174 ≠ gb179); have NB179_174 := Aside0.mk (zgt hg BK174 : gb179 ≠ gb174); replace BK173 := Aside0.mk (zL BK173 hb); replace BK174 := Aside0.mk (zL BK174 hb); replace HB := Aside0.mk (below_step zB hb); clear hb hbox hg) | ((with_reducible refine gate_dst (N := 12) rfl ?_); refine zX (N := 12) (cs := #[.int .i64 0]) (t := 3) ?_ ?_; (focus first | (go_simp; done) | (go_simp; rfl)); intro gb180 hg w17 hbox hb; have BK180 := Aside0.mk (hbox); have GW180 := Aside0.mk (zS hg : w.heap.size ≤ gb180); have GE180 := Aside0.mk (zS hg : w.heap.size ≤ gb180); have NB173_180 := Aside0.mk (zlt hg BK173 : gb173 ≠ gb180); have NB180_173 := Aside0.mk (zgt hg BK173 : gb180 ≠ gb173); have NB174_180 := Aside0.mk (zlt hg BK174 : gb174 ≠ gb180); have NB180_174 := Aside0.mk (zgt hg BK174 : gb180 ≠ gb174); have NB179_180 := Aside0.mk (zlt hg BK179 : gb179 ≠ gb180); have NB180_179 := Aside0.mk (zgt hg BK179 : gb180 ≠ gb179); replace BK173 := Aside0.mk (zL BK173 hb); replace BK174 := Aside0.mk (zL BK174 hb); replace BK179 := Aside0.mk (zL BK179 hb); replace HB := Aside0.mk (below_step zB hb); clear hb hbox hg; have hnb18 := NB179_173.out; have hnc18 := NB173_179.out; have hnb19 := NB179_174.out; have hnc19 := NB174_179.out; have hnb20 := NB179_180.out; have hnc20 := NB180_179.out; have hcz21_0 : w17.cell? ⟨gb179, 0, none⟩ = some (.bool false) := (blk_cell BK179.out 0).trans rfl; have hfz21_0 := blk_frozen BK179.out 0; have hnb22 := NB180_173.out; have hnc22 := NB173_180.out; have hnb23 := NB180_174.out; have hnc23 := NB174_180.out; have hcz24_0 : w17.cell? ⟨gb180, 0, none⟩ = some (.int .i64 0) := (blk_cell BK180.out 0).trans rfl; have hfz24_0 := blk_frozen BK180.out 0; obtain ⟨hcz25_0, hcz25_1, hcz25_2, hcz25_3, hcz25_4, hcz25_5⟩ := zc6 BK173; obtain ⟨hfz25_0, hfz25_1, hfz25_2, hfz25_3, hfz25_4, hfz25_5⟩ := zf6 BK173) | ((with_reducible refine gate_callee (f := 16) rfl ?_); refine zG (some 30) Try.func16 #[.slice A0_5 l0_5.length c0_5, .func (.func 17) #[] #[.pointer (some ⟨gb180, 0, none⟩), .pointer (some ⟨gb179, 0, none⟩)]] ?_; (with_reducible refine (idx_link_Word_1.calls _ _ l0_5 gb180 t177 gb179 t176 t181 _ ?side1 ?side2 ?side3 ?side4 A7.out).mono ?_); (case side1 => exact Kd.C_below HR0_5.out zB); (case side2 => exact HC0_5.out); (case side3 => exact zV); (case side4 => exact zV); rintro e w26 ⟨rfl, hb⟩; refine ⟨_, rfl, ?_⟩; replace BK173 := Aside0.mk (blk_below (g := gb173) (o := .cells #[.string a0_0, .slice A0_1 l0_1.length c0_1, .slice A0_2 l0_2.length c0_2, .slice A0_3 l0_3.length c0_3, .slice A0_4 l0_4.length c0_4, .slice A0_5 l0_5.length c0_5] 26 (0, 0)) zV hb); replace BK174 := Aside0.mk (blk_below (g := gb174) (o := .cells #[.int .u32 a1_0, .int .u32 a1_1] 29 (0, 0)) zV hb); replace BK179 := Aside0.mk (blk_below (g := gb179) (o := .cells #[.bool t176] 4 (0, 0)) zV hb); replace BK180 := Aside0.mk (blk_below (g := gb180) (o := .cells #[.int .i64 t177] 3 (0, 0)) zV hb); replace HB := Aside0.mk (below_step zB hb); (try clear hb); (try clear hb2); (try clear hk); (try clear hi)))
  (try simp only [Act.put, List.setIfInBounds_toArray, List.set_cons_zero, List.set_cons_succ])
  go_cut [36] (fun v36 wc => ∃ (kq : Nat) (x36_7 : Bool), v36 = .bool x36_7 ∧ Aside0 (link_Word.j0 kq l2 t175 t181 x36_7 a0_0 l0_1 l0_2 l0_3 l0_4 l0_5 a1_0 a1_1 = some (r1, r2)) ∧ Aside0 (kq ≤ k) ∧ Aside0 (wc.heap[gb173]? = some (.cells #[.string a0_0, (.slice A0_1 l0_1.length c0_1), (.slice A0_2 l0_2.length c0_2), (.slice A0_3 l0_3.length c0_3), (.slice A0_4 l0_4.length c0_4), (.slice A0_5 l0_5.length c0_5)] 26 (0, 0))) ∧ Aside0 (wc.heap[gb174]? = some (.cells #[.int .u32 a1_0, .int .u32 a1_1] 29 (0, 0))) ∧ Aside0 (wc.heap[gb179]? = some (.cells #[.bool t176] 4 (0, 0))) ∧ Aside0 (wc.heap[gb180]? = some (.cells #[.int .i64 t177] 3 (0, 0))) ∧ Aside0 (Below w.heap.size w wc))
  case first =>
    have H := HC8.out
    clear HC8
    by_cases c27 : t178 = true
    · subst c27
      replace H := zT H
      have H' := Aside0.mk H
      clear H
      go_wp2
      go_meet
      case rel => exact ⟨_, (decide (t181 < 0)), (zE), H', ⟨by first | omega | exact Nat.le_refl _⟩, ⟨zK⟩, ⟨zK⟩, ⟨zK⟩, ⟨zK⟩, ⟨zB⟩⟩
    · replace c27 := Bool.eq_false_iff.mpr c27
      subst c27
      replace H := zU H
      have H' := Aside0.mk H
      clear H
      go_wp2
      go_meet
      case rel => exact ⟨_, (true), (zE), H', ⟨by first | omega | exact Nat.le_refl _⟩, ⟨zK⟩, ⟨zK⟩, ⟨zK⟩, ⟨zK⟩, ⟨zB⟩⟩
  case rest =>
    clear HC8
    try clear c1
    try clear c2
    try clear p2
    try clear c7
    try clear c11
    try clear c14
    try clear c15
    try clear c17
    try clear c18
    try clear c19
    try clear c20
    try clear c22
    try clear c23
    try clear c27
    try clear hcz12_0 hcz12_1 hcz12_2 hcz12_3 hcz12_4 hcz12_5
    try clear hcz14_0 hcz14_1 hcz14_2 hcz14_3 hcz14_4 hcz14_5
    try clear hcz21_0
    try clear hcz24_0
    try clear hcz25_0 hcz25_1 hcz25_2 hcz25_3 hcz25_4 hcz25_5
    try clear hfz12_0 hfz12_1 hfz12_2 hfz12_3 hfz12_4 hfz12_5
    try clear hfz14_0 hfz14_1 hfz14_2 hfz14_3 hfz14_4 hfz14_5
    try clear hfz21_0
    try clear hfz24_0
    try clear hfz25_0 hfz25_1 hfz25_2 hfz25_3 hfz25_4 hfz25_5
    obtain ⟨kq, x36_7, rfl, HA, HJ7, BK173, BK174, BK179, BK180, HB⟩ := hcut
    cases kq with
    | zero => exact absurd HA.out (by simp [link_Word.j0])
    | succ kj7 =>
      have H := HA.out
      clear HA
      simp only [link_Word.j0] at H
      by_cases c28 : x36_7 = true
      · subst c28
        replace H := zT H
        simp only [Option.some.injEq, Prod.mk.injEq] at H
        obtain ⟨rfl, rfl⟩ := H
        go_wp2
        go_ret2
        exact ⟨zF, zB⟩
      · replace c28 := Bool.eq_false_iff.mpr c28
        subst c28
        replace H := zU H
        by_cases c29 : 0 ≤ t181
        · rw [if_pos c29] at H
          have c29b0 : decide (0 ≤ t181) = true := decide_eq_true c29
          clear c29
          by_cases c30 : t181 < (l0_5.length : Int)
          · rw [if_pos c30] at H
            have c30b0 : decide (t181 < (l0_5.length : Int)) = true := decide_eq_true c30
            clear c30
            replace H := Option.bind_eq_some_iff.mp H
            obtain ⟨⟨t183, t184⟩, A310, H⟩ := H
            replace H : (if t184 = 0 then ((reloc_Apply.f kj7 t175 ((rd_T53 l0_5 t181).f0) t183).bind fun bt186 => (some (bt186.1, bt186.2))) else (some (0, t184))) = some (r1, r2) := H
            have A31 := Aside0.mk A310
            clear A310
            by_cases c32 : t184 = 0
            · rw [if_pos c32] at H
              have c32b0 : (t184 == 0) = true := beq_iff_eq.mpr c32
              have c32b1 : (t184 != 0) = false := bne_eq_false_iff_eq.mpr c32
              clear c32
              replace H := Option.bind_eq_some_iff.mp H
              obtain ⟨⟨t186, t187⟩, A330, H⟩ := H
              replace H : (some (t186, t187)) = some (r1, r2) := H
              have A33 := Aside0.mk A330
              clear A330
              simp only [Option.some.injEq, Prod.mk.injEq] at H
              obtain ⟨rfl, rfl⟩ := H
              try go_wp2
              have n0_ := Aside0.mk (blk_drew BK173.out)
              have n1_ := Aside0.mk (blk_drew BK174.out)
              have n2_ := Aside0.mk (blk_drew BK179.out)
              have n3_ := Aside0.mk (blk_drew BK180.out)
              have n4_ := Aside0.mk (below_drew1 HB.out)
              clear BK173
              clear BK174
              clear BK179
              clear BK180
              clear HB
              have BK173 := n0_
              have BK174 := n1_
              have BK179 := n2_
              have BK180 := n3_
              have HB := n4_
              clear n0_ n1_ n2_ n3_ n4_
              have p182 : 0 ≤ (t181 : Int) := of_decide_eq_true (by first | (with_reducible assumption) | assumption)
              have q182 : t181 < (l0_5.length : Int) := of_decide_eq_true (by first | (with_reducible assumption) | assumption)
              obtain ⟨ad182, e182, hx182_0, hx182_1, hx182_2⟩ := at_T53 HR0_5.out t181 p182 q182
              have hw182_2 := hx182_2
              have hw182_1 := hx182_1
              have hw182_0 := hx182_0
              cases e182
              replace hx182_0 := (HB.out.cell (World.block_lt_of_cell? w _ hx182_0)).trans hx182_0
              replace hx182_1 := (HB.out.cell (World.block_lt_of_cell? w _ hx182_1)).trans hx182_1
              replace hx182_2 := (HB.out.cell (World.block_lt_of_cell? w _ hx182_2)).trans hx182_2
              replace p182 := eq_true p182
              replace q182 := eq_true q182
              refine start_ (n := 13) (S := fun w' => w'.cell? ⟨gb173, 0, none⟩ = some (.string a0_0) ∧ w'.cell? ⟨gb173, 1, none⟩ = some (.slice A0_1 l0_1.length c0_1) ∧ w'.cell? ⟨gb173, 2, none⟩ = some (.slice A0_2 l0_2.length c0_2) ∧ w'.cell? ⟨gb173, 3, none⟩ = some (.slice A0_3 l0_3.length c0_3) ∧ w'.cell? ⟨gb173, 4, none⟩ = some (.slice A0_4 l0_4.length c0_4) ∧ w'.cell? ⟨gb173, 5, none⟩ = some (.slice (some ad182) l0_5.length c0_5) ∧ w'.cell? ⟨gb174, 0, none⟩ = some (.int .u32 a1_0) ∧ w'.cell? ⟨gb174, 1, none⟩ = some (.int .u32 a1_1) ∧ w'.cell? (ad182.add ((t181).toNat * 3)) = some (.int .u8 ((rd_T53 l0_5 t181).f0)) ∧ w'.cell? ⟨(ad182.add ((t181).toNat * 3)).block, (ad182.add ((t181).toNat * 3)).off + 1, none⟩ = some (.int .u16 ((rd_T53 l0_5 t181).f1)) ∧ w'.cell? ⟨(ad182.add ((t181).toNat * 3)).block, (ad182.add ((t181).toNat * 3)).off + 2, none⟩ = some (.int .u16 ((rd_T53 l0_5 t181).f2))) (ds := []) #[false, false, false, false, false, false, false, false, false, false, false, false, false] (by kernel_rfl) rfl rfl ⟨(blk_cell BK173.out 0).trans rfl, (blk_cell BK173.out 1).trans rfl, (blk_cell BK173.out 2).trans rfl, (blk_cell BK173.out 3).trans rfl, (blk_cell BK173.out 4).trans rfl, (blk_cell BK173.out 5).trans rfl, (blk_cell BK174.out 0).trans rfl, (blk_cell BK174.out 1).trans rfl, ((HB.out.cell (World.block_lt_of_cell? w _ hw182_0)).trans hw182_0), ((HB.out.cell (World.block_lt_of_cell? w _ hw182_1)).trans hw182_1), ((HB.out.cell (World.block_lt_of_cell? w _ hw182_2)).trans hw182_2)⟩ (fun hHeld => ?_); refine with_tabW link_Word.tab6 link_Word.bits6 (fun HT_ HW_ => ?_)
              generalize wc.drew = w34 at BK173 BK174 BK179 BK180 HB hx182_0 hx182_1 hx182_2 hHeld ⊢
              refine pure_ (i := 0) (N := some 39) (v := ?_) (a' := ?_) #[true, false, false, false, false, false, false, false, false, false, false, false, false] rfl rfl (any_of HT_.out (by kernel_rfl)) (fun _ _ _ h => h) (Or.inl ⟨by rfl, ?_⟩) ?_ ?_
              rotate_left
              · exact zY
              rotate_left
              · exact zA
              refine pure_ (i := 2) (N := some 41) (v := ?_) (a' := ?_) #[true, false, true, false, false, false, false, false, false, false, false, false, false] rfl rfl (any_of HT_.out (by kernel_rfl)) (fun _ _ _ h => h) (Or.inl ⟨by rfl, ?_⟩) ?_ ?_
              rotate_left
              · exact zY
              rotate_left
              · exact zA
              refine pure_ (i := 6) (N := some 45) (v := ?_) (a' := ?_) #[true, false, true, false, false, false, true, false, false, false, false, false, false] rfl rfl (any_of HT_.out (by kernel_rfl)) (fun _ _ _ h => h) (Or.inl ⟨by rfl, ?_⟩) ?_ ?_
              rotate_left
              · exact zY
              rotate_left
              · exact zA
              refine take_ (i := 1) (N := some 40) (v := ?_) (a' := ?_) #[true, true, true, false, false, false, true, false, false, false, false, false, false] rfl rfl (take_ofW HT_.out HW_.out (by kernel_rfl)) (fun _ _ _ h => h) (Or.inl ⟨by rfl, ?_⟩) hHeld ?_ ?_
              rotate_left
              · rintro w' ⟨s0, s1, s2, s3, s4, s5, s6, s7, s8, s9, s10⟩
                go_simp
                with_reducible rfl
              rotate_left
              · exact zA
              refine pure_ (i := 3) (N := some 42) (v := ?_) (a' := ?_) #[true, true, true, true, false, false, true, false, false, false, false, false, false] rfl rfl (any_of HT_.out (by kernel_rfl)) (fun _ _ _ h => h) (Or.inl ⟨by rfl, ?_⟩) ?_ ?_
              rotate_left
              · exact zY
              rotate_left
              · exact zA
              refine take_ (i := 4) (N := some 43) (v := ?_) (a' := ?_) #[true, true, true, true, true, false, true, false, false, false, false, false, false] rfl rfl (take_ofW HT_.out HW_.out (by kernel_rfl)) (fun _ _ _ h => h) (Or.inl ⟨by rfl, ?_⟩) hHeld ?_ ?_
              rotate_left
              · rintro w' ⟨s0, s1, s2, s3, s4, s5, s6, s7, s8, s9, s10⟩
                go_simp
                with_reducible rfl
              rotate_left
              · exact zA
              refine take_ (i := 5) (N := some 44) (v := ?_) (a' := ?_) #[true, true, true, true, true, true, true, false, false, false, false, false, false] rfl rfl (take_ofW HT_.out HW_.out (by kernel_rfl)) (fun _ _ _ h => h) (Or.inl ⟨by rfl, ?_⟩) hHeld ?_ ?_
              rotate_left
              · rintro w' ⟨s0, s1, s2, s3, s4, s5, s6, s7, s8, s9, s10⟩
                go_simp
                with_reducible rfl
              rotate_left
              · exact zA
              refine one_ (i := 7) (N := some 46) #[true, true, true, true, true, true, true, true, false, false, false, false, false] rfl rfl (one_of HT_.out (by kernel_rfl)) (by decide) (fun K hK => ?_)
              refine goes_ Try.func19 (by kernel_rfl) rfl #[.agg #[.int .u8 ((rd_T53 l0_5 t181).f0), .int .u16 ((rd_T53 l0_5 t181).f1), .int .u16 ((rd_T53 l0_5 t181).f2)], .agg #[.int .u32 a1_0, .int .u32 a1_1], .slice A2 l2.length c2] (by rfl) rfl rfl (by (try simp only [List.map_toArray, List.map_cons, List.map_nil]); first | done | rfl | (simp only [List.length_drop, List.length_take]; rfl)) ?_
              with_reducible refine (reloc_Value.calls kj7 ((rd_T53 l0_5 t181).f0) ((rd_T53 l0_5 t181).f1) ((rd_T53 l0_5 t181).f2) a1_0 a1_1 _ _ l2 t183 t184 _ ?side1 ?side2 A31.out).mono ?_
              (case side1 => exact zC)
              (case side2 => exact HC2.out)
              rintro e w35 ⟨rfl, hb⟩
              refine ⟨_, rfl, ?_⟩
              have n0_ := Aside0.mk (zL BK173 hb)
              have n1_ := Aside0.mk (zL BK174 hb)
              have n2_ := Aside0.mk (zL BK179 hb)
              have n3_ := Aside0.mk (zL BK180 hb)
              have n4_ := Aside0.mk (below_step zB hb)
              clear BK173
              clear BK174
              clear BK179
              clear BK180
              clear HB
              have BK173 := n0_
              have BK174 := n1_
              have BK179 := n2_
              have BK180 := n3_
              have HB := n4_
              clear n0_ n1_ n2_ n3_ n4_
              (try clear hb)
              (try clear hb2)
              (try clear hk)
              (try clear hi)
              refine hK.out _ _ ⟨(blk_cell BK173.out 0).trans rfl, (blk_cell BK173.out 1).trans rfl, (blk_cell BK173.out 2).trans rfl, (blk_cell BK173.out 3).trans rfl, (blk_cell BK173.out 4).trans rfl, (blk_cell BK173.out 5).trans rfl, (blk_cell BK174.out 0).trans rfl, (blk_cell BK174.out 1).trans rfl, ((HB.out.cell (World.block_lt_of_cell? w _ hw182_0)).trans hw182_0), ((HB.out.cell (World.block_lt_of_cell? w _ hw182_1)).trans hw182_1), ((HB.out.cell (World.block_lt_of_cell? w _ hw182_2)).trans hw182_2)⟩ (fun hHeld => ?_)
              clear hK K
              refine norm_ (a' := ?_) ?_ ?_
              rotate_left
              · show Act.put _ (some 46) _ = _
                simp only [Act.put, List.setIfInBounds_toArray, List.set_cons_zero, List.set_cons_succ, i64_w, i32_w]
                rfl
              refine pure_ (i := 8) (N := some 38) (v := ?_) (a' := ?_) #[true, true, true, true, true, true, true, true, true, false, false, false, false] rfl rfl (any_of HT_.out (by kernel_rfl)) (fun _ _ _ h => h) (Or.inl ⟨by rfl, ?_⟩) ?_ ?_
              rotate_left
              · exact zY
              rotate_left
              · exact zA
              refine pure_ (i := 9) (N := some 47) (v := ?_) (a' := ?_) #[true, true, true, true, true, true, true, true, true, true, false, false, false] rfl rfl (any_of HT_.out (by kernel_rfl)) (fun _ _ _ h => h) (Or.inl ⟨by rfl, ?_⟩) ?_ ?_
              rotate_left
              · exact zY
              rotate_left
              · exact zA
              refine pure_ (i := 10) (N := some 48) (v := ?_) (a' := ?_) #[true, true, true, true, true, true, true, true, true, true, true, false, false] rfl rfl (any_of HT_.out (by kernel_rfl)) (fun _ _ _ h => h) (Or.inl ⟨by rfl, ?_⟩) ?_ ?_
              rotate_left
              · exact zY
              rotate_left
              · exact zA
              refine pure_ (i := 11) (N := some 15) (v := ?_) (a' := ?_) #[true, true, true, true, true, true, true, true, true, true, true, true, false] rfl rfl (any_of HT_.out (by kernel_rfl)) (fun _ _ _ h => h) (Or.inl ⟨by rfl, ?_⟩) ?_ ?_
              rotate_left
              · exact zY
              rotate_left
              · exact zA
              refine pure_ (i := 12) (N := some 16) (v := ?_) (a' := ?_) #[true, true, true, true, true, true, true, true, true, true, true, true, true] rfl rfl (any_of HT_.out (by kernel_rfl)) (fun _ _ _ h => h) (Or.inl ⟨by rfl, ?_⟩) ?_ ?_
              rotate_left
              · exact zY
              rotate_left
              · exact zA
              refine done_ (done_of HT_.out (by kernel_rfl)) ?_
              have hnb36 := NB173_174.out
              have hnc36 := NB174_173.out
              have hnb37 := NB173_179.out
              have hnc37 := NB179_173.out
              have hnb38 := NB173_180.out
              have hnc38 := NB180_173.out
              obtain ⟨hcz39_0, hcz39_1, hcz39_2, hcz39_3, hcz39_4, hcz39_5⟩ := zc6 BK173
              obtain ⟨hfz39_0, hfz39_1, hfz39_2, hfz39_3, hfz39_4, hfz39_5⟩ := zf6 BK173
              have p185 : 0 ≤ (t181 : Int) := of_decide_eq_true (by first | (with_reducible assumption) | assumption)
              have q185 : t181 < (l0_5.length : Int) := of_decide_eq_true (by first | (with_reducible assumption) | assumption)
              obtain ⟨ad185, e185, hx185_0, hx185_1, hx185_2⟩ := at_T53 HR0_5.out t181 p185 q185
              obtain rfl : ad182 = ad185 := (by injection e185)
              replace hx185_0 := (HB.out.cell (World.block_lt_of_cell? w _ hx185_0)).trans hx185_0
              replace hx185_1 := (HB.out.cell (World.block_lt_of_cell? w _ hx185_1)).trans hx185_1
              replace hx185_2 := (HB.out.cell (World.block_lt_of_cell? w _ hx185_2)).trans hx185_2
              replace p185 := eq_true p185
              replace q185 := eq_true q185
              try go_wp2_with (first | ((with_reducible refine gate_callee (f := 20) rfl ?_); refine zG (some 60) Try.func20 #[.int .u32 t175, .int .u8 ((rd_T53 l0_5 t181).f0), .int .u32 t183] ?_; (with_reducible refine (reloc_Apply.calls kj7 t175 ((rd_T53 l0_5 t181).f0) t183 t186 t187 _ A33.out).mono ?_); rintro e w40 ⟨rfl, hb⟩; refine ⟨_, rfl, ?_⟩; replace BK173 := Aside0.mk (zL BK173 hb); replace BK174 := Aside0.mk (zL BK174 hb); replace BK179 := Aside0.mk (zL BK179 hb); replace BK180 := Aside0.mk (zL BK180 hb); replace HB := Aside0.mk (below_step zB hb); (try clear hb); (try clear hb2); (try clear hk); (try clear hi)))
              go_ret2
              exact ⟨zF, zB⟩
            · rw [if_neg c32] at H
              have c32b0 : (t184 == 0) = false := beq_eq_false_iff_ne.mpr c32
              have c32b1 : (t184 != 0) = true := bne_iff_ne.mpr c32
              simp only [Option.some.injEq, Prod.mk.injEq] at H
              obtain ⟨rfl, rfl⟩ := H
              try go_wp2
              have n0_ := Aside0.mk (blk_drew BK173.out)
              have n1_ := Aside0.mk (blk_drew BK174.out)
              have n2_ := Aside0.mk (blk_drew BK179.out)
              have n3_ := Aside0.mk (blk_drew BK180.out)
              have n4_ := Aside0.mk (below_drew1 HB.out)
              clear BK173
              clear BK174
              clear BK179
              clear BK180
              clear HB
              have BK173 := n0_
              have BK174 := n1_
              have BK179 := n2_
              have BK180 := n3_
              have HB := n4_
              clear n0_ n1_ n2_ n3_ n4_
              have p182 : 0 ≤ (t181 : Int) := of_decide_eq_true (by first | (with_reducible assumption) | assumption)
              have q182 : t181 < (l0_5.length : Int) := of_decide_eq_true (by first | (with_reducible assumption) | assumption)
              obtain ⟨ad182, e182, hx182_0, hx182_1, hx182_2⟩ := at_T53 HR0_5.out t181 p182 q182
              have hw182_2 := hx182_2
              have hw182_1 := hx182_1
              have hw182_0 := hx182_0
              cases e182
              replace hx182_0 := (HB.out.cell (World.block_lt_of_cell? w _ hx182_0)).trans hx182_0
              replace hx182_1 := (HB.out.cell (World.block_lt_of_cell? w _ hx182_1)).trans hx182_1
              replace hx182_2 := (HB.out.cell (World.block_lt_of_cell? w _ hx182_2)).trans hx182_2
              replace p182 := eq_true p182
              replace q182 := eq_true q182
              refine start_ (n := 13) (S := fun w' => w'.cell? ⟨gb173, 0, none⟩ = some (.string a0_0) ∧ w'.cell? ⟨gb173, 1, none⟩ = some (.slice A0_1 l0_1.length c0_1) ∧ w'.cell? ⟨gb173, 2, none⟩ = some (.slice A0_2 l0_2.length c0_2) ∧ w'.cell? ⟨gb173, 3, none⟩ = some (.slice A0_3 l0_3.length c0_3) ∧ w'.cell? ⟨gb173, 4, none⟩ = some (.slice A0_4 l0_4.length c0_4) ∧ w'.cell? ⟨gb173, 5, none⟩ = some (.slice (some ad182) l0_5.length c0_5) ∧ w'.cell? ⟨gb174, 0, none⟩ = some (.int .u32 a1_0) ∧ w'.cell? ⟨gb174, 1, none⟩ = some (.int .u32 a1_1) ∧ w'.cell? (ad182.add ((t181).toNat * 3)) = some (.int .u8 ((rd_T53 l0_5 t181).f0)) ∧ w'.cell? ⟨(ad182.add ((t181).toNat * 3)).block, (ad182.add ((t181).toNat * 3)).off + 1, none⟩ = some (.int .u16 ((rd_T53 l0_5 t181).f1)) ∧ w'.cell? ⟨(ad182.add ((t181).toNat * 3)).block, (ad182.add ((t181).toNat * 3)).off + 2, none⟩ = some (.int .u16 ((rd_T53 l0_5 t181).f2))) (ds := []) #[false, false, false, false, false, false, false, false, false, false, false, false, false] (by kernel_rfl) rfl rfl ⟨(blk_cell BK173.out 0).trans rfl, (blk_cell BK173.out 1).trans rfl, (blk_cell BK173.out 2).trans rfl, (blk_cell BK173.out 3).trans rfl, (blk_cell BK173.out 4).trans rfl, (blk_cell BK173.out 5).trans rfl, (blk_cell BK174.out 0).trans rfl, (blk_cell BK174.out 1).trans rfl, ((HB.out.cell (World.block_lt_of_cell? w _ hw182_0)).trans hw182_0), ((HB.out.cell (World.block_lt_of_cell? w _ hw182_1)).trans hw182_1), ((HB.out.cell (World.block_lt_of_cell? w _ hw182_2)).trans hw182_2)⟩ (fun hHeld => ?_); refine with_tabW link_Word.tab6 link_Word.bits6 (fun HT_ HW_ => ?_)
              generalize wc.drew = w41 at BK173 BK174 BK179 BK180 HB hx182_0 hx182_1 hx182_2 hHeld ⊢
              refine pure_ (i := 0) (N := some 39) (v := ?_) (a' := ?_) #[true, false, false, false, false, false, false, false, false, false, false, false, false] rfl rfl (any_of HT_.out (by kernel_rfl)) (fun _ _ _ h => h) (Or.inl ⟨by rfl, ?_⟩) ?_ ?_
              rotate_left
              · exact zY
              rotate_left
              · exact zA
              refine pure_ (i := 2) (N := some 41) (v := ?_) (a' := ?_) #[true, false, true, false, false, false, false, false, false, false, false, false, false] rfl rfl (any_of HT_.out (by kernel_rfl)) (fun _ _ _ h => h) (Or.inl ⟨by rfl, ?_⟩) ?_ ?_
              rotate_left
              · exact zY
              rotate_left
              · exact zA
              refine pure_ (i := 6) (N := some 45) (v := ?_) (a' := ?_) #[true, false, true, false, false, false, true, false, false, false, false, false, false] rfl rfl (any_of HT_.out (by kernel_rfl)) (fun _ _ _ h => h) (Or.inl ⟨by rfl, ?_⟩) ?_ ?_
              rotate_left
              · exact zY
              rotate_left
              · exact zA
              refine take_ (i := 1) (N := some 40) (v := ?_) (a' := ?_) #[true, true, true, false, false, false, true, false, false, false, false, false, false] rfl rfl (take_ofW HT_.out HW_.out (by kernel_rfl)) (fun _ _ _ h => h) (Or.inl ⟨by rfl, ?_⟩) hHeld ?_ ?_
              rotate_left
              · rintro w' ⟨s0, s1, s2, s3, s4, s5, s6, s7, s8, s9, s10⟩
                go_simp
                with_reducible rfl
              rotate_left
              · exact zA
              refine pure_ (i := 3) (N := some 42) (v := ?_) (a' := ?_) #[true, true, true, true, false, false, true, false, false, false, false, false, false] rfl rfl (any_of HT_.out (by kernel_rfl)) (fun _ _ _ h => h) (Or.inl ⟨by rfl, ?_⟩) ?_ ?_
              rotate_left
              · exact zY
              rotate_left
              · exact zA
              refine take_ (i := 4) (N := some 43) (v := ?_) (a' := ?_) #[true, true, true, true, true, false, true, false, false, false, false, false, false] rfl rfl (take_ofW HT_.out HW_.out (by kernel_rfl)) (fun _ _ _ h => h) (Or.inl ⟨by rfl, ?_⟩) hHeld ?_ ?_
              rotate_left
              · rintro w' ⟨s0, s1, s2, s3, s4, s5, s6, s7, s8, s9, s10⟩
                go_simp
                with_reducible rfl
              rotate_left
              · exact zA
              refine take_ (i := 5) (N := some 44) (v := ?_) (a' := ?_) #[true, true, true, true, true, true, true, false, false, false, false, false, false] rfl rfl (take_ofW HT_.out HW_.out (by kernel_rfl)) (fun _ _ _ h => h) (Or.inl ⟨by rfl, ?_⟩) hHeld ?_ ?_
              rotate_left
              · rintro w' ⟨s0, s1, s2, s3, s4, s5, s6, s7, s8, s9, s10⟩
                go_simp
                with_reducible rfl
              rotate_left
              · exact zA
              refine one_ (i := 7) (N := some 46) #[true, true, true, true, true, true, true, true, false, false, false, false, false] rfl rfl (one_of HT_.out (by kernel_rfl)) (by decide) (fun K hK => ?_)
              refine goes_ Try.func19 (by kernel_rfl) rfl #[.agg #[.int .u8 ((rd_T53 l0_5 t181).f0), .int .u16 ((rd_T53 l0_5 t181).f1), .int .u16 ((rd_T53 l0_5 t181).f2)], .agg #[.int .u32 a1_0, .int .u32 a1_1], .slice A2 l2.length c2] (by rfl) rfl rfl (by (try simp only [List.map_toArray, List.map_cons, List.map_nil]); first | done | rfl | (simp only [List.length_drop, List.length_take]; rfl)) ?_
              with_reducible refine (reloc_Value.calls kj7 ((rd_T53 l0_5 t181).f0) ((rd_T53 l0_5 t181).f1) ((rd_T53 l0_5 t181).f2) a1_0 a1_1 _ _ l2 t183 t184 _ ?side1 ?side2 A31.out).mono ?_
              (case side1 => exact zC)
              (case side2 => exact HC2.out)
              rintro e w42 ⟨rfl, hb⟩
              refine ⟨_, rfl, ?_⟩
              have n0_ := Aside0.mk (zL BK173 hb)
              have n1_ := Aside0.mk (zL BK174 hb)
              have n2_ := Aside0.mk (zL BK179 hb)
              have n3_ := Aside0.mk (zL BK180 hb)
              have n4_ := Aside0.mk (below_step zB hb)
              clear BK173
              clear BK174
              clear BK179
              clear BK180
              clear HB
              have BK173 := n0_
              have BK174 := n1_
              have BK179 := n2_
              have BK180 := n3_
              have HB := n4_
              clear n0_ n1_ n2_ n3_ n4_
              (try clear hb)
              (try clear hb2)
              (try clear hk)
              (try clear hi)
              refine hK.out _ _ ⟨(blk_cell BK173.out 0).trans rfl, (blk_cell BK173.out 1).trans rfl, (blk_cell BK173.out 2).trans rfl, (blk_cell BK173.out 3).trans rfl, (blk_cell BK173.out 4).trans rfl, (blk_cell BK173.out 5).trans rfl, (blk_cell BK174.out 0).trans rfl, (blk_cell BK174.out 1).trans rfl, ((HB.out.cell (World.block_lt_of_cell? w _ hw182_0)).trans hw182_0), ((HB.out.cell (World.block_lt_of_cell? w _ hw182_1)).trans hw182_1), ((HB.out.cell (World.block_lt_of_cell? w _ hw182_2)).trans hw182_2)⟩ (fun hHeld => ?_)
              clear hK K
              refine norm_ (a' := ?_) ?_ ?_
              rotate_left
              · show Act.put _ (some 46) _ = _
                simp only [Act.put, List.setIfInBounds_toArray, List.set_cons_zero, List.set_cons_succ, i64_w, i32_w]
                rfl
              refine pure_ (i := 8) (N := some 38) (v := ?_) (a' := ?_) #[true, true, true, true, true, true, true, true, true, false, false, false, false] rfl rfl (any_of HT_.out (by kernel_rfl)) (fun _ _ _ h => h) (Or.inl ⟨by rfl, ?_⟩) ?_ ?_
              rotate_left
              · exact zY
              rotate_left
              · exact zA
              refine pure_ (i := 9) (N := some 47) (v := ?_) (a' := ?_) #[true, true, true, true, true, true, true, true, true, true, false, false, false] rfl rfl (any_of HT_.out (by kernel_rfl)) (fun _ _ _ h => h) (Or.inl ⟨by rfl, ?_⟩) ?_ ?_
              rotate_left
              · exact zY
              rotate_left
              · exact zA
              refine pure_ (i := 10) (N := some 48) (v := ?_) (a' := ?_) #[true, true, true, true, true, true, true, true, true, true, true, false, false] rfl rfl (any_of HT_.out (by kernel_rfl)) (fun _ _ _ h => h) (Or.inl ⟨by rfl, ?_⟩) ?_ ?_
              rotate_left
              · exact zY
              rotate_left
              · exact zA
              refine pure_ (i := 11) (N := some 15) (v := ?_) (a' := ?_) #[true, true, true, true, true, true, true, true, true, true, true, true, false] rfl rfl (any_of HT_.out (by kernel_rfl)) (fun _ _ _ h => h) (Or.inl ⟨by rfl, ?_⟩) ?_ ?_
              rotate_left
              · exact zY
              rotate_left
              · exact zA
              refine pure_ (i := 12) (N := some 16) (v := ?_) (a' := ?_) #[true, true, true, true, true, true, true, true, true, true, true, true, true] rfl rfl (any_of HT_.out (by kernel_rfl)) (fun _ _ _ h => h) (Or.inl ⟨by rfl, ?_⟩) ?_ ?_
              rotate_left
              · exact zY
              rotate_left
              · exact zA
              refine done_ (done_of HT_.out (by kernel_rfl)) ?_
              try go_wp2
              go_ret2
              exact ⟨zF, zB⟩
          · rw [if_neg c30] at H
            exact absurd H (by simp)
        · rw [if_neg c29] at H
          exact absurd H (by simp)

/-! ### layout_may: function 53 -/
set_option maxHeartbeats 8000000 in
set_option maxRecDepth 100000 in
theorem layout_may.calls (a0 : Int) (r : Bool) (w : World) (h : layout_may.f a0 = some r) :
    Calls Try.prog 53 #[.int .i64 a0] w fun e w' => e = .returned (.bool r) ∧ Drawn0 w w' := by
  have H : (if a0 ≥ 0 then (some (decide (a0 ≤ 256))) else (some false)) = some r := h
  clear h
  by_cases c2 : a0 ≥ 0
  · rw [if_pos c2] at H
    have c2b0 : decide (0 ≤ a0) = true := decide_eq_true c2
    clear c2
    obtain rfl := Option.some.inj H
    go_enter Try.func53, Try.ntmps53
    go_wp2
    go_ret
    exact ⟨zE, zD⟩
  · rw [if_neg c2] at H
    have c2b0 : decide (0 ≤ a0) = false := decide_eq_false c2
    clear c2
    obtain rfl := Option.some.inj H
    go_enter Try.func53, Try.ntmps53
    go_wp2
    go_ret
    exact ⟨zE, zD⟩

/-! ### layout_Pages: function 41 -/
set_option maxHeartbeats 8000000 in
set_option maxRecDepth 100000 in
theorem layout_Pages.calls (a0_0 : Int) (a0_1 : Int) (r : Int) (w : World) (h : layout_Pages.f a0_0 a0_1 = some r) :
    Calls Try.prog 41 #[.agg #[.int .i64 a0_0, .int .i64 a0_1]] w fun e w' => e = .returned (.int .i64 r) ∧ Below w.heap.size w w' := by
  have hu66 := Try.underlying66
  have HB := Aside0.mk (Below.refl w.heap.size w)
  have H : (if (a0_0 == 0 && (a0_1 == 0)) = true then (some 0) else ((layout_may.f a0_0).bind fun t189 => (if t189 = true then ((layout_may.f a0_1).bind fun t190 => (if t190 = true then (some (wrap64 (a0_0 + a0_1))) else (some 0))) else (some 0)))) = some r := h
  clear h
  by_cases c2 : (a0_0 == 0 && (a0_1 == 0)) = true
  · rw [if_pos c2] at H
    have c2b0 : (a0_0 == 0 && (a0_1 == 0)) = true := c2
    (try (have c2b1 : decide (a0_0 = 0 && (a0_1 == 0)) = true := by simpa using c2))
    (try (have c2b2 : (a0_0 == 0 && (a0_1 == 0)) = true := by simpa using c2))
    clear c2
    obtain rfl := Option.some.inj H
    go_enter Try.func41, Try.ntmps41
    go_wp2_with (first | ((with_reducible refine gate_dst (N := 1) rfl ?_); refine zX (N := 1) (cs := #[.int .i64 a0_0, .int .i64 a0_1]) (t := 66) ?_ ?_; (focus first | (go_simp; done) | (go_simp; rfl)); intro gb188 hg w3 hbox hb; have BK188 := Aside0.mk (hbox); have GW188 := Aside0.mk (zS hg : w.heap.size ≤ gb188); have GE188 := Aside0.mk (zS hg : w.heap.size ≤ gb188); replace HB := Aside0.mk (below_step zB hb); clear hb hbox hg; obtain ⟨hcz4_0, hcz4_1⟩ := zc2 BK188; obtain ⟨hfz4_0, hfz4_1⟩ := zf2 BK188))
    go_ret
    exact ⟨zF, zB⟩
  · rw [if_neg c2] at H
    have c2b0 : (a0_0 == 0 && (a0_1 == 0)) = false := by simpa using c2
    (try (have c2b1 : decide (a0_0 = 0 && (a0_1 == 0)) = false := by simpa using c2))
    (try (have c2b2 : (a0_0 == 0 && (a0_1 == 0)) = false := by simpa using c2))
    (try (have c2b3 : ¬ (a0_0 = 0 && (a0_1 == 0)) := by simpa using c2))
    clear c2
    replace H := Option.bind_eq_some_iff.mp H
    obtain ⟨t189, A50, H⟩ := H
    replace H : (if t189 = true then ((layout_may.f a0_1).bind fun t190 => (if t190 = true then (some (wrap64 (a0_0 + a0_1))) else (some 0))) else (some 0)) = some r := H
    have A5 := Aside0.mk A50
    clear A50
    by_cases c6 : t189 = true
    · subst c6
      replace H := zT H
      replace H := Option.bind_eq_some_iff.mp H
      obtain ⟨t190, A70, H⟩ := H
      replace H : (if t190 = true then (some (wrap64 (a0_0 + a0_1))) else (some 0)) = some r := H
      have A7 := Aside0.mk A70
      clear A70
      by_cases c8 : t190 = true
      · subst c8
        replace H := zT H
        obtain rfl := Option.some.inj H
        go_enter Try.func41, Try.ntmps41
        go_wp2_with (first | ((with_reducible refine gate_dst (N := 1) rfl ?_); refine zX (N := 1) (cs := #[.int .i64 a0_0, .int .i64 a0_1]) (t := 66) ?_ ?_; (focus first | (go_simp; done) | (go_simp; rfl)); intro gb188 hg w9 hbox hb; have BK188 := Aside0.mk (hbox); have GW188 := Aside0.mk (zS hg : w.heap.size ≤ gb188); have GE188 := Aside0.mk (zS hg : w.heap.size ≤ gb188); replace HB := Aside0.mk (below_step zB hb); clear hb hbox hg; obtain ⟨hcz10_0, hcz10_1⟩ := zc2 BK188; obtain ⟨hfz10_0, hfz10_1⟩ := zf2 BK188) | (go_at_call 53; (with_reducible refine (layout_may.calls a0_0 true _ A5.out).mono ?_); rintro e w' ⟨rfl, ⟨nd, rfl⟩⟩) | (go_at_call 53; (with_reducible refine (layout_may.calls a0_1 true _ A7.out).mono ?_); rintro e w' ⟨rfl, ⟨nd, rfl⟩⟩))
        go_ret
        exact ⟨zF, zB⟩
      · replace c8 := Bool.eq_false_iff.mpr c8
        subst c8
        replace H := zU H
        obtain rfl := Option.some.inj H
        go_enter Try.func41, Try.ntmps41
        go_wp2_with (first | ((with_reducible refine gate_dst (N := 1) rfl ?_); refine zX (N := 1) (cs := #[.int .i64 a0_0, .int .i64 a0_1]) (t := 66) ?_ ?_; (focus first | (go_simp; done) | (go_simp; rfl)); intro gb188 hg w11 hbox hb; have BK188 := Aside0.mk (hbox); have GW188 := Aside0.mk (zS hg : w.heap.size ≤ gb188); have GE188 := Aside0.mk (zS hg : w.heap.size ≤ gb188); replace HB := Aside0.mk (below_step zB hb); clear hb hbox hg; obtain ⟨hcz12_0, hcz12_1⟩ := zc2 BK188; obtain ⟨hfz12_0, hfz12_1⟩ := zf2 BK188) | (go_at_call 53; (with_reducible refine (layout_may.calls a0_0 true _ A5.out).mono ?_); rintro e w' ⟨rfl, ⟨nd, rfl⟩⟩) | (go_at_call 53; (with_reducible refine (layout_may.calls a0_1 false _ A7.out).mono ?_); rintro e w' ⟨rfl, ⟨nd, rfl⟩⟩))
        go_ret
        exact ⟨zF, zB⟩
    · replace c6 := Bool.eq_false_iff.mpr c6
      subst c6
      replace H := zU H
      obtain rfl := Option.some.inj H
      go_enter Try.func41, Try.ntmps41
      go_wp2_with (first | ((with_reducible refine gate_dst (N := 1) rfl ?_); refine zX (N := 1) (cs := #[.int .i64 a0_0, .int .i64 a0_1]) (t := 66) ?_ ?_; (focus first | (go_simp; done) | (go_simp; rfl)); intro gb188 hg w13 hbox hb; have BK188 := Aside0.mk (hbox); have GW188 := Aside0.mk (zS hg : w.heap.size ≤ gb188); have GE188 := Aside0.mk (zS hg : w.heap.size ≤ gb188); replace HB := Aside0.mk (below_step zB hb); clear hb hbox hg; obtain ⟨hcz14_0, hcz14_1⟩ := zc2 BK188; obtain ⟨hfz14_0, hfz14_1⟩ := zf2 BK188) | (go_at_call 53; (with_reducible refine (layout_may.calls a0_0 false _ A5.out).mono ?_); rintro e w' ⟨rfl, ⟨nd, rfl⟩⟩))
      go_ret
      exact ⟨zF, zB⟩

/-! ### layout_Words: function 26 -/
set_option maxHeartbeats 8000000 in
set_option maxRecDepth 100000 in
theorem layout_Words.calls (a0_0 : Int) (a0_1 : Int) (r : Int) (w : World) (h : layout_Words.f a0_0 a0_1 = some r) :
    Calls Try.prog 26 #[.agg #[.int .i64 a0_0, .int .i64 a0_1]] w fun e w' => e = .returned (.int .i64 r) ∧ Below w.heap.size w w' := by
  have hu66 := Try.underlying66
  have HB := Aside0.mk (Below.refl w.heap.size w)
  have H : ((layout_Pages.f a0_0 a0_1).bind fun t192 => (some (wrap64 (t192 * 16)))) = some r := h
  clear h
  replace H := Option.bind_eq_some_iff.mp H
  obtain ⟨t192, A20, H⟩ := H
  replace H : (some (wrap64 (t192 * 16))) = some r := H
  have A2 := Aside0.mk A20
  clear A20
  obtain rfl := Option.some.inj H
  go_enter Try.func26, Try.ntmps26
  go_wp2_with (first | ((with_reducible refine gate_dst (N := 1) rfl ?_); refine zX (N := 1) (cs := #[.int .i64 a0_0, .int .i64 a0_1]) (t := 66) ?_ ?_; (focus first | (go_simp; done) | (go_simp; rfl)); intro gb191 hg w3 hbox hb; have BK191 := Aside0.mk (hbox); have GW191 := Aside0.mk (zS hg : w.heap.size ≤ gb191); have GE191 := Aside0.mk (zS hg : w.heap.size ≤ gb191); replace HB := Aside0.mk (below_step zB hb); clear hb hbox hg; obtain ⟨hcz4_0, hcz4_1⟩ := zc2 BK191; obtain ⟨hfz4_0, hfz4_1⟩ := zf2 BK191) | ((with_reducible refine gate_callee (f := 41) rfl ?_); refine zG (some 4) Try.func41 #[.agg #[.int .i64 a0_0, .int .i64 a0_1]] ?_; (with_reducible refine (layout_Pages.calls a0_0 a0_1 t192 _ A2.out).mono ?_); rintro e w5 ⟨rfl, hb⟩; refine ⟨_, rfl, ?_⟩; replace BK191 := Aside0.mk (zL BK191 hb); replace HB := Aside0.mk (below_step zB hb); (try clear hb); (try clear hb2); (try clear hk); (try clear hi)))
  go_ret
  exact ⟨zF, zB⟩

/-! ### layout_Of: function 27 -/
set_option maxHeartbeats 8000000 in
set_option maxRecDepth 100000 in
theorem layout_Of.calls (a0_0 : ByteArray) (A0_1 : Option Addr) (c0_1 : Nat) (l0_1 : List ByteArray) (A0_2 : Option Addr) (c0_2 : Nat) (l0_2 : List ByteArray) (A0_3 : Option Addr) (c0_3 : Nat) (l0_3 : List Int) (A0_4 : Option Addr) (c0_4 : Nat) (l0_4 : List Int) (A0_5 : Option Addr) (c0_5 : Nat) (l0_5 : List (S53)) (r1 : Int) (r2 : Int) (w : World) (hr0_1 : Kd.C Kd.string w A0_1 l0_1.length l0_1) (hc0_1 : l0_1.length ≤ c0_1) (hr0_2 : Kd.C Kd.string w A0_2 l0_2.length l0_2) (hc0_2 : l0_2.length ≤ c0_2) (hr0_3 : Kd.C (Kd.int .u32) w A0_3 l0_3.length l0_3) (hc0_3 : l0_3.length ≤ c0_3) (hr0_4 : Kd.C (Kd.int .u32) w A0_4 l0_4.length l0_4) (hc0_4 : l0_4.length ≤ c0_4) (hr0_5 : Kd.C k53 w A0_5 l0_5.length l0_5) (hc0_5 : l0_5.length ≤ c0_5) (h : layout_Of.f a0_0 l0_1 l0_2 l0_3 l0_4 l0_5 = some (r1, r2)) :
    Calls Try.prog 27 #[.agg #[.string a0_0, .slice A0_1 l0_1.length c0_1, .slice A0_2 l0_2.length c0_2, .slice A0_3 l0_3.length c0_3, .slice A0_4 l0_4.length c0_4, .slice A0_5 l0_5.length c0_5]] w fun e w' => e = .returned (.agg #[.int .i64 r1, .int .i64 r2]) ∧ Below w.heap.size w w' := by
  have hu26 := Try.underlying26
  have hu66 := Try.underlying66
  have HR0_1 := Aside0.mk hr0_1
  have HC0_1 := Aside0.mk hc0_1
  clear hr0_1 hc0_1
  have HR0_2 := Aside0.mk hr0_2
  have HC0_2 := Aside0.mk hc0_2
  clear hr0_2 hc0_2
  have HR0_3 := Aside0.mk hr0_3
  have HC0_3 := Aside0.mk hc0_3
  clear hr0_3 hc0_3
  have HR0_4 := Aside0.mk hr0_4
  have HC0_4 := Aside0.mk hc0_4
  clear hr0_4 hc0_4
  have HR0_5 := Aside0.mk hr0_5
  have HC0_5 := Aside0.mk hc0_5
  clear hr0_5 hc0_5
  have HB := Aside0.mk (Below.refl w.heap.size w)
  have H : ((layout_up.f (l0_3.length : Int)).bind fun t195 => ((layout_up.f (l0_4.length : Int)).bind fun t196 => (some (t195, t196)))) = some (r1, r2) := h
  clear h
  replace H := Option.bind_eq_some_iff.mp H
  obtain ⟨t195, A20, H⟩ := H
  replace H : ((layout_up.f (l0_4.length : Int)).bind fun t196 => (some (t195, t196))) = some (r1, r2) := H
  have A2 := Aside0.mk A20
  clear A20
  replace H := Option.bind_eq_some_iff.mp H
  obtain ⟨t196, A30, H⟩ := H
  replace H : (some (t195, t196)) = some (r1, r2) := H
  have A3 := Aside0.mk A30
  clear A30
  simp only [Option.some.injEq, Prod.mk.injEq] at H
  obtain ⟨rfl, rfl⟩ := H
  go_enter Try.func27, Try.ntmps27
  try go_wp2_with (first | ((with_reducible refine gate_dst (N := 1) rfl ?_); refine zX (N := 1) (cs := #[.string a0_0, .slice A0_1 l0_1.length c0_1, .slice A0_2 l0_2.length c0_2, .slice A0_3 l0_3.length c0_3, .slice A0_4 l0_4.length c0_4, .slice A0_5 l0_5.length c0_5]) (t := 26) ?_ ?_; (focus first | (go_simp; done) | (go_simp; rfl)); intro gb193 hg w4 hbox hb; have BK193 := Aside0.mk (hbox); have GW193 := Aside0.mk (zS hg : w.heap.size ≤ gb193); have GE193 := Aside0.mk (zS hg : w.heap.size ≤ gb193); replace HB := Aside0.mk (below_step zB hb); clear hb hbox hg) | ((with_reducible refine gate_dst (N := 2) rfl ?_); refine zX (N := 2) (cs := #[.int .i64 0, .int .i64 0]) (t := 66) ?_ ?_; (focus first | (go_simp; done) | (go_simp; rfl)); intro gb194 hg w5 hbox hb; have BK194 := Aside0.mk (hbox); have GW194 := Aside0.mk (zS hg : w.heap.size ≤ gb194); have GE194 := Aside0.mk (zS hg : w.heap.size ≤ gb194); have NB193_194 := Aside0.mk (zlt hg BK193 : gb193 ≠ gb194); have NB194_193 := Aside0.mk (zgt hg BK193 : gb194 ≠ gb193); replace BK193 := Aside0.mk (zL BK193 hb); replace HB := Aside0.mk (below_step zB hb); clear hb hbox hg))
  have n0_ := Aside0.mk (blk_drew BK193.out)
  have n1_ := Aside0.mk (blk_drew BK194.out)
  have n2_ := Aside0.mk (below_drew1 HB.out)
  clear BK193
  clear BK194
  clear HB
  have BK193 := n0_
  have BK194 := n1_
  have HB := n2_
  clear n0_ n1_ n2_
  refine start_ (n := 10) (S := fun w' => w'.cell? ⟨gb193, 0, none⟩ = some (.string a0_0) ∧ w'.cell? ⟨gb193, 1, none⟩ = some (.slice A0_1 l0_1.length c0_1) ∧ w'.cell? ⟨gb193, 2, none⟩ = some (.slice A0_2 l0_2.length c0_2) ∧ w'.cell? ⟨gb193, 3, none⟩ = some (.slice A0_3 l0_3.length c0_3) ∧ w'.cell? ⟨gb193, 4, none⟩ = some (.slice A0_4 l0_4.length c0_4) ∧ w'.cell? ⟨gb193, 5, none⟩ = some (.slice A0_5 l0_5.length c0_5)) (ds := []) #[false, false, false, false, false, false, false, false, false, false] (by kernel_rfl) rfl rfl ⟨(blk_cell BK193.out 0).trans rfl, (blk_cell BK193.out 1).trans rfl, (blk_cell BK193.out 2).trans rfl, (blk_cell BK193.out 3).trans rfl, (blk_cell BK193.out 4).trans rfl, (blk_cell BK193.out 5).trans rfl⟩ (fun hHeld => ?_); refine with_tabW layout_Of.tab1 layout_Of.bits1 (fun HT_ HW_ => ?_)
  generalize w5.drew = w6 at BK193 BK194 HB hHeld ⊢
  refine pure_ (i := 0) (N := some 3) (v := ?_) (a' := ?_) #[true, false, false, false, false, false, false, false, false, false] rfl rfl (any_of HT_.out (by kernel_rfl)) (fun _ _ _ h => h) (Or.inl ⟨by rfl, ?_⟩) ?_ ?_
  rotate_left
  · exact zY
  rotate_left
  · exact zA
  refine pure_ (i := 4) (N := some 7) (v := ?_) (a' := ?_) #[true, false, false, false, true, false, false, false, false, false] rfl rfl (any_of HT_.out (by kernel_rfl)) (fun _ _ _ h => h) (Or.inl ⟨by rfl, ?_⟩) ?_ ?_
  rotate_left
  · exact zY
  rotate_left
  · exact zA
  refine take_ (i := 1) (N := some 4) (v := ?_) (a' := ?_) #[true, true, false, false, true, false, false, false, false, false] rfl rfl (take_ofW HT_.out HW_.out (by kernel_rfl)) (fun _ _ _ h => h) (Or.inl ⟨by rfl, ?_⟩) hHeld ?_ ?_
  rotate_left
  · rintro w' ⟨s0, s1, s2, s3, s4, s5⟩
    go_simp
    with_reducible rfl
  rotate_left
  · exact zA
  refine pure_ (i := 2) (N := some 5) (v := ?_) (a' := ?_) #[true, true, true, false, true, false, false, false, false, false] rfl rfl (any_of HT_.out (by kernel_rfl)) (fun _ _ _ h => h) (Or.inl ⟨by rfl, ?_⟩) ?_ ?_
  rotate_left
  · exact zY
  rotate_left
  · exact zA
  refine take_ (i := 5) (N := some 8) (v := ?_) (a' := ?_) #[true, true, true, false, true, true, false, false, false, false] rfl rfl (take_ofW HT_.out HW_.out (by kernel_rfl)) (fun _ _ _ h => h) (Or.inl ⟨by rfl, ?_⟩) hHeld ?_ ?_
  rotate_left
  · rintro w' ⟨s0, s1, s2, s3, s4, s5⟩
    go_simp
    with_reducible rfl
  rotate_left
  · exact zA
  refine pure_ (i := 6) (N := some 9) (v := ?_) (a' := ?_) #[true, true, true, false, true, true, true, false, false, false] rfl rfl (any_of HT_.out (by kernel_rfl)) (fun _ _ _ h => h) (Or.inl ⟨by rfl, ?_⟩) ?_ ?_
  rotate_left
  · exact zY
  rotate_left
  · exact zA
  refine one_ (i := 3) (N := some 6) #[true, true, true, true, true, true, true, false, false, false] rfl rfl (one_of HT_.out (by kernel_rfl)) (by decide) (fun K hK => ?_)
  refine goes_ Try.func31 (by kernel_rfl) rfl #[.int .i64 (l0_3.length : Int)] (by rfl) rfl rfl (by (try simp only [List.map_toArray, List.map_cons, List.map_nil]); first | done | rfl | (simp only [List.length_drop, List.length_take]; rfl)) ?_
  with_reducible refine (layout_up.calls (l0_3.length : Int) t195 _ A2.out).mono ?_
  rintro e w' ⟨rfl, ⟨nd, rfl⟩⟩
  refine ⟨_, rfl, ?_⟩
  refine hK.out _ _ ⟨(blk_cell BK193.out 0).trans rfl, (blk_cell BK193.out 1).trans rfl, (blk_cell BK193.out 2).trans rfl, (blk_cell BK193.out 3).trans rfl, (blk_cell BK193.out 4).trans rfl, (blk_cell BK193.out 5).trans rfl⟩ (fun hHeld => ?_)
  clear hK K
  refine norm_ (a' := ?_) ?_ ?_
  rotate_left
  · show Act.put _ (some 6) _ = _
    simp only [Act.put, List.setIfInBounds_toArray, List.set_cons_zero, List.set_cons_succ, i64_w, i32_w]
    rfl
  refine one_ (i := 7) (N := some 10) #[true, true, true, true, true, true, true, true, false, false] rfl rfl (one_of HT_.out (by kernel_rfl)) (by decide) (fun K hK => ?_)
  refine goes_ Try.func31 (by kernel_rfl) rfl #[.int .i64 (l0_4.length : Int)] (by rfl) rfl rfl (by (try simp only [List.map_toArray, List.map_cons, List.map_nil]); first | done | rfl | (simp only [List.length_drop, List.length_take]; rfl)) ?_
  with_reducible refine (layout_up.calls (l0_4.length : Int) t196 _ A3.out).mono ?_
  rintro e w' ⟨rfl, ⟨nd, rfl⟩⟩
  refine ⟨_, rfl, ?_⟩
  refine hK.out _ _ ⟨(blk_cell BK193.out 0).trans rfl, (blk_cell BK193.out 1).trans rfl, (blk_cell BK193.out 2).trans rfl, (blk_cell BK193.out 3).trans rfl, (blk_cell BK193.out 4).trans rfl, (blk_cell BK193.out 5).trans rfl⟩ (fun hHeld => ?_)
  clear hK K
  refine norm_ (a' := ?_) ?_ ?_
  rotate_left
  · show Act.put _ (some 10) _ = _
    simp only [Act.put, List.setIfInBounds_toArray, List.set_cons_zero, List.set_cons_succ, i64_w, i32_w]
    rfl
  refine pure_ (i := 8) (N := some 11) (v := ?_) (a' := ?_) #[true, true, true, true, true, true, true, true, true, false] rfl rfl (any_of HT_.out (by kernel_rfl)) (fun _ _ _ h => h) (Or.inl ⟨by rfl, ?_⟩) ?_ ?_
  rotate_left
  · exact zY
  rotate_left
  · exact zA
  refine one_ (i := 9) (N := none) #[true, true, true, true, true, true, true, true, true, true] rfl rfl (one_of HT_.out (by kernel_rfl)) (by decide) (fun K hK => ?_)
  obtain ⟨hs7, hs8⟩ := zc2 BK194
  obtain ⟨hfs7, hfs8⟩ := zf2 BK194
  have hns7_0 := NB193_194.out
  have hms7_0 := NB194_193.out
  refine skip_ (w1 := ?_) (by rfl) rfl ?_ ?_
  rotate_left
  · go_simp
    rfl
  refine hK.out _ _ ⟨(zh2 NB193_194.out hHeld.1), (zh2 NB193_194.out hHeld.2.1), (zh2 NB193_194.out hHeld.2.2.1), (zh2 NB193_194.out hHeld.2.2.2.1), (zh2 NB193_194.out hHeld.2.2.2.2.1), (zh2 NB193_194.out hHeld.2.2.2.2.2)⟩ (fun hHeld => ?_)
  clear hK K
  refine done_ (done_of HT_.out (by kernel_rfl)) ?_
  try go_wp2
  refine bodyPost_ret (results_cell_row rfl _ _ gb194 66 #[.int .i64 t195, .int .i64 t196] (0, 0) _ rfl zV Try.underlying66 rfl (by kernel_rfl)) rfl ?_
  exact ⟨zF, zB⟩

end Go.Proofs.Ytllkloneapjgjaa.P
