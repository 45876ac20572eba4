-- WRITTEN BY bud.py (a program of this session's over the kit's print). Not trusted: Lean checks it.
import Derived.Test.YtllkloneapjgjaaPx0
import Derived.Test.YtllkloneapjgjaaPxf
import Derived.Test.YtllkloneapjgjaaPx12
namespace Go.Proofs.Ytllkloneapjgjaa.P
open Go.RowKit Go.Proofs.YtllkloneapjgjaaW.PrintWords Go.Proofs.YtllkloneapjgjaaW.PrintLast Go.Proofs.YtllkloneapjgjaaW.PrintMore
attribute [local go_sem] max2_int min2_int max_two min_two max_three min_three max_four min_four   -- for this text's walks alone
set_option linter.unusedVariables false
set_option linter.unusedSimpArgs false

/-! ### budwoodref12_Spot: function 22 -/
set_option maxHeartbeats 8000000 in
set_option maxRecDepth 100000 in
theorem budwoodref12_Spot.calls (k : Nat) (a0_0 : ByteArray) (A0_1 : Option Addr) (c0_1 : Nat) (l0_1 : List ByteArray) (A0_2 : Option Addr) (c0_2 : Nat) (l0_2 : List ByteArray) (A0_3 : Option Addr) (c0_3 : Nat) (l0_3 : List Int) (A0_4 : Option Addr) (c0_4 : Nat) (l0_4 : List Int) (A0_5 : Option Addr) (c0_5 : Nat) (l0_5 : List (S53)) (a1 : Int) (r1 : Bool) (r2 : Int) (r3 : Bool) (w : World) (hr0_1 : Kd.C Kd.string w A0_1 l0_1.length l0_1) (hc0_1 : l0_1.length ≤ c0_1) (hr0_2 : Kd.C Kd.string w A0_2 l0_2.length l0_2) (hc0_2 : l0_2.length ≤ c0_2) (hr0_3 : Kd.C (Kd.int .u32) w A0_3 l0_3.length l0_3) (hc0_3 : l0_3.length ≤ c0_3) (hr0_4 : Kd.C (Kd.int .u32) w A0_4 l0_4.length l0_4) (hc0_4 : l0_4.length ≤ c0_4) (hr0_5 : Kd.C k53 w A0_5 l0_5.length l0_5) (hc0_5 : l0_5.length ≤ c0_5) (h : budwoodref12_Spot.f k a0_0 l0_1 l0_2 l0_3 l0_4 l0_5 a1 = some (r1, r2, r3)) :
    Calls Try.prog 22 #[.agg #[.string a0_0, .slice A0_1 l0_1.length c0_1, .slice A0_2 l0_2.length c0_2, .slice A0_3 l0_3.length c0_3, .slice A0_4 l0_4.length c0_4, .slice A0_5 l0_5.length c0_5], .int .i64 a1] w fun e w' => e = .returned (.tuple #[.bool r1, .int .i64 r2, .bool r3]) ∧ Below w.heap.size w w' := by
  have hu26 := Try.underlying26
  have HR0_1 := Aside0.mk hr0_1
  have HC0_1 := Aside0.mk hc0_1
  clear hr0_1 hc0_1
  have HR0_2 := Aside0.mk hr0_2
  have HC0_2 := Aside0.mk hc0_2
  clear hr0_2 hc0_2
  have HR0_3 := Aside0.mk hr0_3
  have HC0_3 := Aside0.mk hc0_3
  clear hr0_3 hc0_3
  have HR0_4 := Aside0.mk hr0_4
  have HC0_4 := Aside0.mk hc0_4
  clear hr0_4 hc0_4
  have HR0_5 := Aside0.mk hr0_5
  have HC0_5 := Aside0.mk hc0_5
  clear hr0_5 hc0_5
  have HB := Aside0.mk (Below.refl w.heap.size w)
  have H : ((budwoodref12_pages.f (l0_3.length : Int)).bind fun t229 => (if a1 ≥ 0 then (budwoodref12_Spot.j0 k a1 (wrap64 (16 * t229)) (decide (a1 < (l0_3.length : Int))) a0_0 l0_1 l0_2 l0_3 l0_4 l0_5) else (budwoodref12_Spot.j0 k a1 (wrap64 (16 * t229)) false a0_0 l0_1 l0_2 l0_3 l0_4 l0_5))) = some (r1, r2, r3) := h
  clear h
  replace H := Option.bind_eq_some_iff.mp H
  obtain ⟨t229, A30, H⟩ := H
  replace H : (if a1 ≥ 0 then (budwoodref12_Spot.j0 k a1 (wrap64 (16 * t229)) (decide (a1 < (l0_3.length : Int))) a0_0 l0_1 l0_2 l0_3 l0_4 l0_5) else (budwoodref12_Spot.j0 k a1 (wrap64 (16 * t229)) false a0_0 l0_1 l0_2 l0_3 l0_4 l0_5)) = some (r1, r2, r3) := H
  have A3 := Aside0.mk A30
  clear A30
  have HC4 := Aside0.mk H
  clear H
  go_enter Try.func22, Try.ntmps22
  go_upto_region 2 with (first | ((with_reducible refine gate_dst (N := 2) rfl ?_); (try (refine gate_guard (by rfl) ?_; dsimp only)); refine zX (N := 2) (cs := #[.string a0_0, .slice A0_1 l0_1.length c0_1, .slice A0_2 l0_2.length c0_2, .slice A0_3 l0_3.length c0_3, .slice A0_4 l0_4.length c0_4, .slice A0_5 l0_5.length c0_5]) (t := 26) ?_ ?_; (focus first | (go_simp; done) | (go_simp; rfl)); intro gb228 hg w5 hbox hb; have BK228 := Aside0.mk (hbox); have GW228 := Aside0.mk (zS hg : w.heap.size ≤ gb228); have GE228 := Aside0.mk (zS hg : w.heap.size ≤ gb228); replace HB := Aside0.mk (below_step zB hb); clear hb hbox hg; obtain ⟨hcz6_0, hcz6_1, hcz6_2, hcz6_3, hcz6_4, hcz6_5⟩ := zc6 BK228; obtain ⟨hfz6_0, hfz6_1, hfz6_2, hfz6_3, hfz6_4, hfz6_5⟩ := zf6 BK228) | ((with_reducible refine gate_callee (f := 35) rfl ?_); refine zG (some 11) Try.func35 #[.int .i64 (l0_3.length : Int)] ?_; (with_reducible refine (budwoodref12_pages.calls (l0_3.length : Int) t229 _ A3.out).mono ?_); rintro e w7 ⟨rfl, hb⟩; refine ⟨_, rfl, ?_⟩; replace BK228 := Aside0.mk (zL BK228 hb); replace HB := Aside0.mk (below_step zB hb); (try clear hb); (try clear hb2); (try clear hk); (try clear hi)))
  (try simp only [Act.put, List.setIfInBounds_toArray, List.set_cons_zero, List.set_cons_succ])
  go_cut [13] (fun v13 wc => ∃ (kq : Nat) (x13_3 : Bool), v13 = .bool x13_3 ∧ Aside0 (budwoodref12_Spot.j0 kq a1 (wrap64 (16 * t229)) x13_3 a0_0 l0_1 l0_2 l0_3 l0_4 l0_5 = some (r1, r2, r3)) ∧ Aside0 (kq ≤ k) ∧ Aside0 (wc.heap[gb228]? = some (.cells #[.string a0_0, (.slice A0_1 l0_1.length c0_1), (.slice A0_2 l0_2.length c0_2), (.slice A0_3 l0_3.length c0_3), (.slice A0_4 l0_4.length c0_4), (.slice A0_5 l0_5.length c0_5)] 26 (0, 0))) ∧ Aside0 (Below w.heap.size w wc))
  case first =>
    have H := HC4.out
    clear HC4
    by_cases c8 : a1 ≥ 0
    · rw [if_pos c8] at H
      have c8b0 : decide (0 ≤ a1) = true := decide_eq_true c8
      clear c8
      (first | rw [c8b0] | (simp only [i64_w, i32_w]; rw [c8b0]) | skip)
      have H' := Aside0.mk H
      clear H
      obtain ⟨hcz9_0, hcz9_1, hcz9_2, hcz9_3, hcz9_4, hcz9_5⟩ := zc6 BK228
      obtain ⟨hfz9_0, hfz9_1, hfz9_2, hfz9_3, hfz9_4, hfz9_5⟩ := zf6 BK228
      go_wp2
      go_meet
      case rel => exact ⟨_, (decide (a1 < (l0_3.length : Int))), (zE), H', ⟨by first | omega | exact Nat.le_refl _⟩, ⟨zK⟩, ⟨zB⟩⟩
    · rw [if_neg c8] at H
      have c8b0 : decide (0 ≤ a1) = false := decide_eq_false c8
      clear c8
      (first | rw [c8b0] | (simp only [i64_w, i32_w]; rw [c8b0]) | skip)
      have H' := Aside0.mk H
      clear H
      go_wp2
      go_meet
      case rel => exact ⟨_, (false), (zE), H', ⟨by first | omega | exact Nat.le_refl _⟩, ⟨zK⟩, ⟨zB⟩⟩
  case rest =>
    clear HC4
    try clear c2
    try clear p2
    try clear c3
    try clear p6
    try clear c8
    try clear c8b0
    try clear hcz6_0 hcz6_1 hcz6_2 hcz6_3 hcz6_4 hcz6_5
    try clear hcz9_0 hcz9_1 hcz9_2 hcz9_3 hcz9_4 hcz9_5
    try clear hfz6_0 hfz6_1 hfz6_2 hfz6_3 hfz6_4 hfz6_5
    try clear hfz9_0 hfz9_1 hfz9_2 hfz9_3 hfz9_4 hfz9_5
    obtain ⟨kq, x13_3, rfl, HA, HJ3, BK228, HB⟩ := hcut
    cases kq with
    | zero => exact absurd HA.out (by simp [budwoodref12_Spot.j0])
    | succ kj3 =>
      have H := HA.out
      clear HA
      simp only [budwoodref12_Spot.j0] at H
      by_cases c10 : x13_3 = true
      · subst c10
        replace H := zT H
        simp only [Option.some.injEq, Prod.mk.injEq] at H
        obtain ⟨rfl, rfl, rfl⟩ := H
        go_wp2
        go_ret3
        exact ⟨zF, zB⟩
      · replace c10 := Bool.eq_false_iff.mpr c10
        subst c10
        replace H := zU H
        by_cases c11 : a1 ≥ (wrap64 (16 * t229))
        · rw [if_pos c11] at H
          have c11b0 : decide ((wrap64 (16 * t229)) ≤ a1) = true := decide_eq_true c11
          clear c11
          by_cases c12 : (wrap64 (a1 - (wrap64 (16 * t229)))) < (l0_4.length : Int)
          · rw [if_pos c12] at H
            have c12b0 : decide ((wrap64 (a1 - (wrap64 (16 * t229)))) < (l0_4.length : Int)) = true := decide_eq_true c12
            clear c12
            simp only [Option.some.injEq, Prod.mk.injEq] at H
            obtain ⟨rfl, rfl, rfl⟩ := H
            obtain ⟨hcz13_0, hcz13_1, hcz13_2, hcz13_3, hcz13_4, hcz13_5⟩ := zc6 BK228
            obtain ⟨hfz13_0, hfz13_1, hfz13_2, hfz13_3, hfz13_4, hfz13_5⟩ := zf6 BK228
            go_wp2
            go_ret3
            exact ⟨zF, zB⟩
          · rw [if_neg c12] at H
            have c12b0 : decide ((wrap64 (a1 - (wrap64 (16 * t229)))) < (l0_4.length : Int)) = false := decide_eq_false c12
            clear c12
            simp only [Option.some.injEq, Prod.mk.injEq] at H
            obtain ⟨rfl, rfl, rfl⟩ := H
            obtain ⟨hcz14_0, hcz14_1, hcz14_2, hcz14_3, hcz14_4, hcz14_5⟩ := zc6 BK228
            obtain ⟨hfz14_0, hfz14_1, hfz14_2, hfz14_3, hfz14_4, hfz14_5⟩ := zf6 BK228
            go_wp2
            go_ret3
            exact ⟨zF, zB⟩
        · rw [if_neg c11] at H
          have c11b0 : decide ((wrap64 (16 * t229)) ≤ a1) = false := decide_eq_false c11
          clear c11
          simp only [Option.some.injEq, Prod.mk.injEq] at H
          obtain ⟨rfl, rfl, rfl⟩ := H
          go_wp2
          go_ret3
          exact ⟨zF, zB⟩

/-! ### budwoodref12_Raw: function 21 -/
set_option maxHeartbeats 8000000 in
set_option maxRecDepth 100000 in
theorem budwoodref12_Raw.calls (k : Nat) (a0_0 : ByteArray) (A0_1 : Option Addr) (c0_1 : Nat) (l0_1 : List ByteArray) (A0_2 : Option Addr) (c0_2 : Nat) (l0_2 : List ByteArray) (A0_3 : Option Addr) (c0_3 : Nat) (l0_3 : List Int) (A0_4 : Option Addr) (c0_4 : Nat) (l0_4 : List Int) (A0_5 : Option Addr) (c0_5 : Nat) (l0_5 : List (S53)) (a1 : Int) (r : Int) (w : World) (hr0_1 : Kd.C Kd.string w A0_1 l0_1.length l0_1) (hc0_1 : l0_1.length ≤ c0_1) (hr0_2 : Kd.C Kd.string w A0_2 l0_2.length l0_2) (hc0_2 : l0_2.length ≤ c0_2) (hr0_3 : Kd.C (Kd.int .u32) w A0_3 l0_3.length l0_3) (hc0_3 : l0_3.length ≤ c0_3) (hr0_4 : Kd.C (Kd.int .u32) w A0_4 l0_4.length l0_4) (hc0_4 : l0_4.length ≤ c0_4) (hr0_5 : Kd.C k53 w A0_5 l0_5.length l0_5) (hc0_5 : l0_5.length ≤ c0_5) (h : budwoodref12_Raw.f k a0_0 l0_1 l0_2 l0_3 l0_4 l0_5 a1 = some r) :
    Calls Try.prog 21 #[.agg #[.string a0_0, .slice A0_1 l0_1.length c0_1, .slice A0_2 l0_2.length c0_2, .slice A0_3 l0_3.length c0_3, .slice A0_4 l0_4.length c0_4, .slice A0_5 l0_5.length c0_5], .int .i64 a1] w fun e w' => e = .returned (.int .u32 r) ∧ Below w.heap.size w w' := by
  have hu26 := Try.underlying26
  have HR0_1 := Aside0.mk hr0_1
  have HC0_1 := Aside0.mk hc0_1
  clear hr0_1 hc0_1
  have HR0_2 := Aside0.mk hr0_2
  have HC0_2 := Aside0.mk hc0_2
  clear hr0_2 hc0_2
  have HR0_3 := Aside0.mk hr0_3
  have HC0_3 := Aside0.mk hc0_3
  clear hr0_3 hc0_3
  have HR0_4 := Aside0.mk hr0_4
  have HC0_4 := Aside0.mk hc0_4
  clear hr0_4 hc0_4
  have HR0_5 := Aside0.mk hr0_5
  have HC0_5 := Aside0.mk hc0_5
  clear hr0_5 hc0_5
  have HB := Aside0.mk (Below.refl w.heap.size w)
  have H : ((budwoodref12_Spot.f k a0_0 l0_1 l0_2 l0_3 l0_4 l0_5 a1).bind fun bt231 => (if bt231.2.2 = true then (if bt231.1 = true then (if 0 ≤ bt231.2.1 then (if bt231.2.1 < (l0_3.length : Int) then (some (rd l0_3 bt231.2.1)) else (none)) else (none)) else (if 0 ≤ bt231.2.1 then (if bt231.2.1 < (l0_4.length : Int) then (some (rd l0_4 bt231.2.1)) else (none)) else (none))) else (some 0))) = some r := h
  clear h
  replace H := Option.bind_eq_some_iff.mp H
  obtain ⟨⟨t231, t232, t233⟩, A30, H⟩ := H
  replace H : (if t233 = true then (if t231 = true then (if 0 ≤ t232 then (if t232 < (l0_3.length : Int) then (some (rd l0_3 t232)) else (none)) else (none)) else (if 0 ≤ t232 then (if t232 < (l0_4.length : Int) then (some (rd l0_4 t232)) else (none)) else (none))) else (some 0)) = some r := H
  have A3 := Aside0.mk A30
  clear A30
  by_cases c4 : t233 = true
  · subst c4
    replace H := zT H
    by_cases c5 : t231 = true
    · subst c5
      replace H := zT H
      by_cases c6 : 0 ≤ t232
      · rw [if_pos c6] at H
        have c6b0 : decide (0 ≤ t232) = true := decide_eq_true c6
        clear c6
        by_cases c7 : t232 < (l0_3.length : Int)
        · rw [if_pos c7] at H
          have c7b0 : decide (t232 < (l0_3.length : Int)) = true := decide_eq_true c7
          clear c7
          obtain rfl := Option.some.inj H
          go_enter Try.func21, Try.ntmps21
          go_wp2_with (first | ((with_reducible refine gate_dst (N := 2) rfl ?_); refine zX (N := 2) (cs := #[.string a0_0, .slice A0_1 l0_1.length c0_1, .slice A0_2 l0_2.length c0_2, .slice A0_3 l0_3.length c0_3, .slice A0_4 l0_4.length c0_4, .slice A0_5 l0_5.length c0_5]) (t := 26) ?_ ?_; (focus first | (go_simp; done) | (go_simp; rfl)); intro gb230 hg w8 hbox hb; have BK230 := Aside0.mk (hbox); have GW230 := Aside0.mk (zS hg : w.heap.size ≤ gb230); have GE230 := Aside0.mk (zS hg : w.heap.size ≤ gb230); replace HB := Aside0.mk (below_step zB hb); clear hb hbox hg; obtain ⟨hcz9_0, hcz9_1, hcz9_2, hcz9_3, hcz9_4, hcz9_5⟩ := zc6 BK230; obtain ⟨hfz9_0, hfz9_1, hfz9_2, hfz9_3, hfz9_4, hfz9_5⟩ := zf6 BK230) | ((with_reducible refine gate_callee (f := 22) rfl ?_); refine zG (some 11) Try.func22 #[.agg #[.string a0_0, .slice A0_1 l0_1.length c0_1, .slice A0_2 l0_2.length c0_2, .slice A0_3 l0_3.length c0_3, .slice A0_4 l0_4.length c0_4, .slice A0_5 l0_5.length c0_5], .int .i64 a1] ?_; (with_reducible refine (budwoodref12_Spot.calls k a0_0 _ _ l0_1 _ _ l0_2 _ _ l0_3 _ _ l0_4 _ _ l0_5 a1 true t232 true _ ?side1 ?side2 ?side3 ?side4 ?side5 ?side6 ?side7 ?side8 ?side9 ?side10 A3.out).mono ?_); (case side1 => exact zC); (case side2 => exact HC0_1.out); (case side3 => exact zC); (case side4 => exact HC0_2.out); (case side5 => exact zC); (case side6 => exact HC0_3.out); (case side7 => exact zC); (case side8 => exact HC0_4.out); (case side9 => exact zC); (case side10 => exact HC0_5.out); rintro e w10 ⟨rfl, hb⟩; refine ⟨_, rfl, ?_⟩; replace BK230 := Aside0.mk (zL BK230 hb); replace HB := Aside0.mk (below_step zB hb); (try clear hb); (try clear hb2); (try clear hk); (try clear hi); obtain ⟨hcz11_0, hcz11_1, hcz11_2, hcz11_3, hcz11_4, hcz11_5⟩ := zc6 BK230; obtain ⟨hfz11_0, hfz11_1, hfz11_2, hfz11_3, hfz11_4, hfz11_5⟩ := zf6 BK230; have p234 : 0 ≤ (t232 : Int) := of_decide_eq_true (by first | (with_reducible assumption) | assumption); have q234 : t232 < (l0_3.length : Int) := of_decide_eq_true (by first | (with_reducible assumption) | assumption); obtain ⟨ad234, e234, hx234_0⟩ := Kd.at_int HR0_3.out t232 p234 q234; cases e234; replace hx234_0 := (HB.out.cell (World.block_lt_of_cell? w _ hx234_0)).trans hx234_0; replace p234 := eq_true p234; replace q234 := eq_true q234))
          go_ret
          exact ⟨zF, zB⟩
        · rw [if_neg c7] at H
          exact absurd H (by simp)
      · rw [if_neg c6] at H
        exact absurd H (by simp)
    · replace c5 := Bool.eq_false_iff.mpr c5
      subst c5
      replace H := zU H
      by_cases c12 : 0 ≤ t232
      · rw [if_pos c12] at H
        have c12b0 : decide (0 ≤ t232) = true := decide_eq_true c12
        clear c12
        by_cases c13 : t232 < (l0_4.length : Int)
        · rw [if_pos c13] at H
          have c13b0 : decide (t232 < (l0_4.length : Int)) = true := decide_eq_true c13
          clear c13
          obtain rfl := Option.some.inj H
          go_enter Try.func21, Try.ntmps21
          go_wp2_with (first | ((with_reducible refine gate_dst (N := 2) rfl ?_); refine zX (N := 2) (cs := #[.string a0_0, .slice A0_1 l0_1.length c0_1, .slice A0_2 l0_2.length c0_2, .slice A0_3 l0_3.length c0_3, .slice A0_4 l0_4.length c0_4, .slice A0_5 l0_5.length c0_5]) (t := 26) ?_ ?_; (focus first | (go_simp; done) | (go_simp; rfl)); intro gb230 hg w14 hbox hb; have BK230 := Aside0.mk (hbox); have GW230 := Aside0.mk (zS hg : w.heap.size ≤ gb230); have GE230 := Aside0.mk (zS hg : w.heap.size ≤ gb230); replace HB := Aside0.mk (below_step zB hb); clear hb hbox hg; obtain ⟨hcz15_0, hcz15_1, hcz15_2, hcz15_3, hcz15_4, hcz15_5⟩ := zc6 BK230; obtain ⟨hfz15_0, hfz15_1, hfz15_2, hfz15_3, hfz15_4, hfz15_5⟩ := zf6 BK230) | ((with_reducible refine gate_callee (f := 22) rfl ?_); refine zG (some 11) Try.func22 #[.agg #[.string a0_0, .slice A0_1 l0_1.length c0_1, .slice A0_2 l0_2.length c0_2, .slice A0_3 l0_3.length c0_3, .slice A0_4 l0_4.length c0_4, .slice A0_5 l0_5.length c0_5], .int .i64 a1] ?_; (with_reducible refine (budwoodref12_Spot.calls k a0_0 _ _ l0_1 _ _ l0_2 _ _ l0_3 _ _ l0_4 _ _ l0_5 a1 false t232 true _ ?side1 ?side2 ?side3 ?side4 ?side5 ?side6 ?side7 ?side8 ?side9 ?side10 A3.out).mono ?_); (case side1 => exact zC); (case side2 => exact HC0_1.out); (case side3 => exact zC); (case side4 => exact HC0_2.out); (case side5 => exact zC); (case side6 => exact HC0_3.out); (case side7 => exact zC); (case side8 => exact HC0_4.out); (case side9 => exact zC); (case side10 => exact HC0_5.out); rintro e w16 ⟨rfl, hb⟩; refine ⟨_, rfl, ?_⟩; replace BK230 := Aside0.mk (zL BK230 hb); replace HB := Aside0.mk (below_step zB hb); (try clear hb); (try clear hb2); (try clear hk); (try clear hi); obtain ⟨hcz17_0, hcz17_1, hcz17_2, hcz17_3, hcz17_4, hcz17_5⟩ := zc6 BK230; obtain ⟨hfz17_0, hfz17_1, hfz17_2, hfz17_3, hfz17_4, hfz17_5⟩ := zf6 BK230; have p235 : 0 ≤ (t232 : Int) := of_decide_eq_true (by first | (with_reducible assumption) | assumption); have q235 : t232 < (l0_4.length : Int) := of_decide_eq_true (by first | (with_reducible assumption) | assumption); obtain ⟨ad235, e235, hx235_0⟩ := Kd.at_int HR0_4.out t232 p235 q235; cases e235; replace hx235_0 := (HB.out.cell (World.block_lt_of_cell? w _ hx235_0)).trans hx235_0; replace p235 := eq_true p235; replace q235 := eq_true q235))
          go_ret
          exact ⟨zF, zB⟩
        · rw [if_neg c13] at H
          exact absurd H (by simp)
      · rw [if_neg c12] at H
        exact absurd H (by simp)
  · replace c4 := Bool.eq_false_iff.mpr c4
    subst c4
    replace H := zU H
    obtain rfl := Option.some.inj H
    go_enter Try.func21, Try.ntmps21
    go_wp2_with (first | ((with_reducible refine gate_dst (N := 2) rfl ?_); refine zX (N := 2) (cs := #[.string a0_0, .slice A0_1 l0_1.length c0_1, .slice A0_2 l0_2.length c0_2, .slice A0_3 l0_3.length c0_3, .slice A0_4 l0_4.length c0_4, .slice A0_5 l0_5.length c0_5]) (t := 26) ?_ ?_; (focus first | (go_simp; done) | (go_simp; rfl)); intro gb230 hg w18 hbox hb; have BK230 := Aside0.mk (hbox); have GW230 := Aside0.mk (zS hg : w.heap.size ≤ gb230); have GE230 := Aside0.mk (zS hg : w.heap.size ≤ gb230); replace HB := Aside0.mk (below_step zB hb); clear hb hbox hg; obtain ⟨hcz19_0, hcz19_1, hcz19_2, hcz19_3, hcz19_4, hcz19_5⟩ := zc6 BK230; obtain ⟨hfz19_0, hfz19_1, hfz19_2, hfz19_3, hfz19_4, hfz19_5⟩ := zf6 BK230) | ((with_reducible refine gate_callee (f := 22) rfl ?_); refine zG (some 11) Try.func22 #[.agg #[.string a0_0, .slice A0_1 l0_1.length c0_1, .slice A0_2 l0_2.length c0_2, .slice A0_3 l0_3.length c0_3, .slice A0_4 l0_4.length c0_4, .slice A0_5 l0_5.length c0_5], .int .i64 a1] ?_; (with_reducible refine (budwoodref12_Spot.calls k a0_0 _ _ l0_1 _ _ l0_2 _ _ l0_3 _ _ l0_4 _ _ l0_5 a1 t231 t232 false _ ?side1 ?side2 ?side3 ?side4 ?side5 ?side6 ?side7 ?side8 ?side9 ?side10 A3.out).mono ?_); (case side1 => exact zC); (case side2 => exact HC0_1.out); (case side3 => exact zC); (case side4 => exact HC0_2.out); (case side5 => exact zC); (case side6 => exact HC0_3.out); (case side7 => exact zC); (case side8 => exact HC0_4.out); (case side9 => exact zC); (case side10 => exact HC0_5.out); rintro e w20 ⟨rfl, hb⟩; refine ⟨_, rfl, ?_⟩; replace BK230 := Aside0.mk (zL BK230 hb); replace HB := Aside0.mk (below_step zB hb); (try clear hb); (try clear hb2); (try clear hk); (try clear hi)))
    go_ret
    exact ⟨zF, zB⟩

/-! ### budwoodref11_InCode: function 23 -/
set_option maxHeartbeats 8000000 in
set_option maxRecDepth 100000 in
theorem budwoodref11_InCode.calls (a0 : Int) (r : Bool) (w : World) (h : budwoodref11_InCode.f a0 = some r) :
    Calls Try.prog 23 #[.int .u8 a0] w fun e w' => e = .returned (.bool r) ∧ Drawn0 w w' := by
  have H : (if a0 = 0 then (some true) else (if a0 = 1 then (some true) else (if a0 = 2 then (some true) else (if a0 = 3 then (some true) else (some (a0 == 7)))))) = some r := h
  clear h
  by_cases c2 : a0 = 0
  · rw [if_pos c2] at H
    have c2b0 : (a0 == 0) = true := beq_iff_eq.mpr c2
    have c2b1 : (a0 != 0) = false := bne_eq_false_iff_eq.mpr c2
    clear c2
    obtain rfl := Option.some.inj H
    go_enter Try.func23, Try.ntmps23
    go_wp2
    go_ret
    exact ⟨zE, zD⟩
  · rw [if_neg c2] at H
    have c2b0 : (a0 == 0) = false := beq_eq_false_iff_ne.mpr c2
    have c2b1 : (a0 != 0) = true := bne_iff_ne.mpr c2
    by_cases c3 : a0 = 1
    · rw [if_pos c3] at H
      have c3b0 : (a0 == 1) = true := beq_iff_eq.mpr c3
      have c3b1 : (a0 != 1) = false := bne_eq_false_iff_eq.mpr c3
      clear c3
      obtain rfl := Option.some.inj H
      go_enter Try.func23, Try.ntmps23
      go_wp2
      go_ret
      exact ⟨zE, zD⟩
    · rw [if_neg c3] at H
      have c3b0 : (a0 == 1) = false := beq_eq_false_iff_ne.mpr c3
      have c3b1 : (a0 != 1) = true := bne_iff_ne.mpr c3
      by_cases c4 : a0 = 2
      · rw [if_pos c4] at H
        have c4b0 : (a0 == 2) = true := beq_iff_eq.mpr c4
        have c4b1 : (a0 != 2) = false := bne_eq_false_iff_eq.mpr c4
        clear c4
        obtain rfl := Option.some.inj H
        go_enter Try.func23, Try.ntmps23
        go_wp2
        go_ret
        exact ⟨zE, zD⟩
      · rw [if_neg c4] at H
        have c4b0 : (a0 == 2) = false := beq_eq_false_iff_ne.mpr c4
        have c4b1 : (a0 != 2) = true := bne_iff_ne.mpr c4
        by_cases c5 : a0 = 3
        · rw [if_pos c5] at H
          have c5b0 : (a0 == 3) = true := beq_iff_eq.mpr c5
          have c5b1 : (a0 != 3) = false := bne_eq_false_iff_eq.mpr c5
          clear c5
          obtain rfl := Option.some.inj H
          go_enter Try.func23, Try.ntmps23
          go_wp2
          go_ret
          exact ⟨zE, zD⟩
        · rw [if_neg c5] at H
          have c5b0 : (a0 == 3) = false := beq_eq_false_iff_ne.mpr c5
          have c5b1 : (a0 != 3) = true := bne_iff_ne.mpr c5
          obtain rfl := Option.some.inj H
          go_enter Try.func23, Try.ntmps23
          go_wp2
          go_ret
          exact ⟨zE, zD⟩

/-! ### budwoodref15_Import: function 36 -/
set_option maxHeartbeats 8000000 in
set_option maxRecDepth 100000 in
theorem budwoodref15_Import.calls (a0 : Int) (r : Bool) (w : World) (h : budwoodref15_Import.f a0 = some r) :
    Calls Try.prog 36 #[.int .u8 a0] w fun e w' => e = .returned (.bool r) ∧ Drawn0 w w' := by
  have H : (if a0 = 0 then (some true) else (if a0 = 1 then (some true) else (some (a0 == 4)))) = some r := h
  clear h
  by_cases c2 : a0 = 0
  · rw [if_pos c2] at H
    have c2b0 : (a0 == 0) = true := beq_iff_eq.mpr c2
    have c2b1 : (a0 != 0) = false := bne_eq_false_iff_eq.mpr c2
    clear c2
    obtain rfl := Option.some.inj H
    go_enter Try.func36, Try.ntmps36
    go_wp2
    go_ret
    exact ⟨zE, zD⟩
  · rw [if_neg c2] at H
    have c2b0 : (a0 == 0) = false := beq_eq_false_iff_ne.mpr c2
    have c2b1 : (a0 != 0) = true := bne_iff_ne.mpr c2
    by_cases c3 : a0 = 1
    · rw [if_pos c3] at H
      have c3b0 : (a0 == 1) = true := beq_iff_eq.mpr c3
      have c3b1 : (a0 != 1) = false := bne_eq_false_iff_eq.mpr c3
      clear c3
      obtain rfl := Option.some.inj H
      go_enter Try.func36, Try.ntmps36
      go_wp2
      go_ret
      exact ⟨zE, zD⟩
    · rw [if_neg c3] at H
      have c3b0 : (a0 == 1) = false := beq_eq_false_iff_ne.mpr c3
      have c3b1 : (a0 != 1) = true := bne_iff_ne.mpr c3
      obtain rfl := Option.some.inj H
      go_enter Try.func36, Try.ntmps36
      go_wp2
      go_ret
      exact ⟨zE, zD⟩

/-! ### budwoodref15_Value: function 24 -/
set_option maxHeartbeats 8000000 in
set_option maxRecDepth 100000 in
theorem budwoodref15_Value.calls (k : Nat) (a0_0 : Int) (a0_1 : Int) (a0_2 : Int) (a1_0 : Int) (a1_1 : Int) (A2 : Option Addr) (c2 : Nat) (l2 : List Int) (r1 : Int) (r2 : Int) (w : World) (hr2 : Kd.C (Kd.int .u32) w A2 l2.length l2) (hc2 : l2.length ≤ c2) (h : budwoodref15_Value.f k a0_0 a0_1 a0_2 a1_0 a1_1 l2 = some (r1, r2)) :
    Calls Try.prog 24 #[.agg #[.int .u8 a0_0, .int .u16 a0_1, .int .u16 a0_2], .agg #[.int .u32 a1_0, .int .u32 a1_1], .slice A2 l2.length c2] w fun e w' => e = .returned (.tuple #[.int .u32 r1, .int .i64 r2]) ∧ Below w.heap.size w w' := by
  have hu53 := Try.underlying53
  have hu39 := Try.underlying39
  have HR2 := Aside0.mk hr2
  have HC2 := Aside0.mk hc2
  clear hr2 hc2
  have HB := Aside0.mk (Below.refl w.heap.size w)
  have H : (if a0_0 > 7 then (budwoodref15_Value.j0 k l2 true a0_0 a0_1 a0_2 a1_0 a1_1) else ((budwoodref15_Import.f a0_0).bind fun t238 => (if t238 = true then (budwoodref15_Value.j0 k l2 (decide ((wrap64 (a0_2)) ≥ (l2.length : Int))) a0_0 a0_1 a0_2 a1_0 a1_1) else (budwoodref15_Value.j0 k l2 false a0_0 a0_1 a0_2 a1_0 a1_1)))) = some (r1, r2) := h
  clear h
  have HC4 := Aside0.mk H
  clear H
  go_enter Try.func24, Try.ntmps24
  go_upto_region 1 with (first | ((with_reducible refine gate_dst (N := 3) rfl ?_); (try (refine gate_guard (by rfl) ?_; dsimp only)); refine zX (N := 3) (cs := #[.int .u8 a0_0, .int .u16 a0_1, .int .u16 a0_2]) (t := 53) ?_ ?_; (focus first | (go_simp; done) | (go_simp; rfl)); intro gb236 hg w5 hbox hb; have BK236 := Aside0.mk (hbox); have GW236 := Aside0.mk (zS hg : w.heap.size ≤ gb236); have GE236 := Aside0.mk (zS hg : w.heap.size ≤ gb236); replace HB := Aside0.mk (below_step zB hb); clear hb hbox hg) | ((with_reducible refine gate_dst (N := 4) rfl ?_); (try (refine gate_guard (by rfl) ?_; dsimp only)); refine zX (N := 4) (cs := #[.int .u32 a1_0, .int .u32 a1_1]) (t := 39) ?_ ?_; (focus first | (go_simp; done) | (go_simp; rfl)); intro gb237 hg w6 hbox hb; have BK237 := Aside0.mk (hbox); have GW237 := Aside0.mk (zS hg : w.heap.size ≤ gb237); have GE237 := Aside0.mk (zS hg : w.heap.size ≤ gb237); have NB236_237 := Aside0.mk (zlt hg BK236 : gb236 ≠ gb237); have NB237_236 := Aside0.mk (zgt hg BK236 : gb237 ≠ gb236); replace BK236 := Aside0.mk (zL BK236 hb); replace HB := Aside0.mk (below_step zB hb); clear hb hbox hg))
  (try simp only [Act.put, List.setIfInBounds_toArray, List.set_cons_zero, List.set_cons_succ])
  go_cut [8] (fun v8 wc => ∃ (kq : Nat) (x8_3 : Bool), v8 = .bool x8_3 ∧ Aside0 (budwoodref15_Value.j0 kq l2 x8_3 a0_0 a0_1 a0_2 a1_0 a1_1 = some (r1, r2)) ∧ Aside0 (kq ≤ k) ∧ Aside0 (wc.heap[gb236]? = some (.cells #[.int .u8 a0_0, .int .u16 a0_1, .int .u16 a0_2] 53 (0, 0))) ∧ Aside0 (wc.heap[gb237]? = some (.cells #[.int .u32 a1_0, .int .u32 a1_1] 39 (0, 0))) ∧ Aside0 (Below w.heap.size w wc))
  case first =>
    have H := HC4.out
    clear HC4
    by_cases c7 : a0_0 > 7
    · rw [if_pos c7] at H
      have c7b0 : decide (7 < a0_0) = true := decide_eq_true c7
      clear c7
      (first | rw [c7b0] | (simp only [i64_w, i32_w]; rw [c7b0]) | skip)
      have H' := Aside0.mk H
      clear H
      have hnb8 := NB236_237.out
      have hnc8 := NB237_236.out
      obtain ⟨hcz9_0, hcz9_1, hcz9_2⟩ := zc3 BK236
      obtain ⟨hfz9_0, hfz9_1, hfz9_2⟩ := zf3 BK236
      go_wp2
      go_meet
      case rel => exact ⟨_, (true), (zE), H', ⟨by first | omega | exact Nat.le_refl _⟩, ⟨zK⟩, ⟨zK⟩, ⟨zB⟩⟩
    · rw [if_neg c7] at H
      have c7b0 : decide (7 < a0_0) = false := decide_eq_false c7
      clear c7
      (first | rw [c7b0] | (simp only [i64_w, i32_w]; rw [c7b0]) | skip)
      replace H := Option.bind_eq_some_iff.mp H
      obtain ⟨t238, A100, H⟩ := H
      replace H : (if t238 = true then (budwoodref15_Value.j0 k l2 (decide ((wrap64 (a0_2)) ≥ (l2.length : Int))) a0_0 a0_1 a0_2 a1_0 a1_1) else (budwoodref15_Value.j0 k l2 false a0_0 a0_1 a0_2 a1_0 a1_1)) = some (r1, r2) := H
      have A10 := Aside0.mk A100
      clear A100
      by_cases c11 : t238 = true
      · subst c11
        replace H := zT H
        have H' := Aside0.mk H
        clear H
        have hnb12 := NB236_237.out
        have hnc12 := NB237_236.out
        obtain ⟨hcz13_0, hcz13_1, hcz13_2⟩ := zc3 BK236
        obtain ⟨hfz13_0, hfz13_1, hfz13_2⟩ := zf3 BK236
        go_wp2_with (first | (go_at_call 36; (with_reducible refine (budwoodref15_Import.calls a0_0 true _ A10.out).mono ?_); rintro e w' ⟨rfl, ⟨nd, rfl⟩⟩))
        go_meet
        case rel => exact ⟨_, (decide ((wrap64 (a0_2)) ≥ (l2.length : Int))), (zE), H', ⟨by first | omega | exact Nat.le_refl _⟩, ⟨zK⟩, ⟨zK⟩, ⟨zB⟩⟩
      · replace c11 := Bool.eq_false_iff.mpr c11
        subst c11
        replace H := zU H
        have H' := Aside0.mk H
        clear H
        have hnb14 := NB236_237.out
        have hnc14 := NB237_236.out
        obtain ⟨hcz15_0, hcz15_1, hcz15_2⟩ := zc3 BK236
        obtain ⟨hfz15_0, hfz15_1, hfz15_2⟩ := zf3 BK236
        go_wp2_with (first | (go_at_call 36; (with_reducible refine (budwoodref15_Import.calls a0_0 false _ A10.out).mono ?_); rintro e w' ⟨rfl, ⟨nd, rfl⟩⟩))
        go_meet
        case rel => exact ⟨_, (false), (zE), H', ⟨by first | omega | exact Nat.le_refl _⟩, ⟨zK⟩, ⟨zK⟩, ⟨zB⟩⟩
  case rest =>
    clear HC4
    try clear c1
    try clear c2
    try clear p2
    try clear p6
    try clear c7
    try clear c7b0
    try clear c8
    try clear c11
    try clear c12
    try clear c14
    try clear hcz13_0 hcz13_1 hcz13_2
    try clear hcz15_0 hcz15_1 hcz15_2
    try clear hcz9_0 hcz9_1 hcz9_2
    try clear hfz13_0 hfz13_1 hfz13_2
    try clear hfz15_0 hfz15_1 hfz15_2
    try clear hfz9_0 hfz9_1 hfz9_2
    obtain ⟨kq, x8_3, rfl, HA, HJ3, BK236, BK237, HB⟩ := hcut
    cases kq with
    | zero => exact absurd HA.out (by simp [budwoodref15_Value.j0])
    | succ kj3 =>
      have H := HA.out
      clear HA
      simp only [budwoodref15_Value.j0] at H
      by_cases c16 : x8_3 = true
      · subst c16
        replace H := zT H
        simp only [Option.some.injEq, Prod.mk.injEq] at H
        obtain ⟨rfl, rfl⟩ := H
        go_wp2
        go_ret2
        exact ⟨zF, zB⟩
      · replace c16 := Bool.eq_false_iff.mpr c16
        subst c16
        replace H := zU H
        replace H := Option.bind_eq_some_iff.mp H
        obtain ⟨t239, A170, H⟩ := H
        replace H : (if t239 = true then (if 0 ≤ a0_2 then (if a0_2 < (l2.length : Int) then (some (rd l2 a0_2, 0)) else (none)) else (none)) else (if a0_0 = 2 then (some ((a1_1 + ((a0_2) % 4294967296)) % 4294967296, 0)) else (if a0_0 = 5 then (some ((a1_1 + ((a0_2) % 4294967296)) % 4294967296, 0)) else (some ((a1_0 + ((a0_2) % 4294967296)) % 4294967296, 0))))) = some (r1, r2) := H
        have A17 := Aside0.mk A170
        clear A170
        by_cases c18 : t239 = true
        · subst c18
          replace H := zT H
          by_cases c19 : 0 ≤ a0_2
          · rw [if_pos c19] at H
            have c19b0 : decide (0 ≤ a0_2) = true := decide_eq_true c19
            clear c19
            by_cases c20 : a0_2 < (l2.length : Int)
            · rw [if_pos c20] at H
              have c20b0 : decide (a0_2 < (l2.length : Int)) = true := decide_eq_true c20
              clear c20
              simp only [Option.some.injEq, Prod.mk.injEq] at H
              obtain ⟨rfl, rfl⟩ := H
              have hnb21 := NB236_237.out
              have hnc21 := NB237_236.out
              obtain ⟨hcz22_0, hcz22_1, hcz22_2⟩ := zc3 BK236
              obtain ⟨hfz22_0, hfz22_1, hfz22_2⟩ := zf3 BK236
              go_wp2_with (first | ((with_reducible refine gate_callee (f := 36) rfl ?_); refine zG (some 28) Try.func36 #[.int .u8 a0_0] ?_; (with_reducible refine (budwoodref15_Import.calls a0_0 true _ A17.out).mono ?_); rintro e w' ⟨rfl, ⟨nd, rfl⟩⟩; refine ⟨_, rfl, ?_⟩; have p240 : 0 ≤ (a0_2 : Int) := of_decide_eq_true (by first | (with_reducible assumption) | assumption); have q240 : a0_2 < (l2.length : Int) := of_decide_eq_true (by first | (with_reducible assumption) | assumption); obtain ⟨ad240, e240, hx240_0⟩ := Kd.at_int HR2.out a0_2 p240 q240; cases e240; replace hx240_0 := (HB.out.cell (World.block_lt_of_cell? w _ hx240_0)).trans hx240_0; replace p240 := eq_true p240; replace q240 := eq_true q240))
              go_ret2
              exact ⟨zF, zB⟩
            · rw [if_neg c20] at H
              exact absurd H (by simp)
          · rw [if_neg c19] at H
            exact absurd H (by simp)
        · replace c18 := Bool.eq_false_iff.mpr c18
          subst c18
          replace H := zU H
          by_cases c23 : a0_0 = 2
          · rw [if_pos c23] at H
            have c23b0 : (a0_0 == 2) = true := beq_iff_eq.mpr c23
            have c23b1 : (a0_0 != 2) = false := bne_eq_false_iff_eq.mpr c23
            clear c23
            simp only [Option.some.injEq, Prod.mk.injEq] at H
            obtain ⟨rfl, rfl⟩ := H
            have hnb24 := NB236_237.out
            have hnc24 := NB237_236.out
            obtain ⟨hcz25_0, hcz25_1, hcz25_2⟩ := zc3 BK236
            obtain ⟨hfz25_0, hfz25_1, hfz25_2⟩ := zf3 BK236
            go_wp2_with (first | ((with_reducible refine gate_callee (f := 36) rfl ?_); refine zG (some 28) Try.func36 #[.int .u8 a0_0] ?_; (with_reducible refine (budwoodref15_Import.calls a0_0 false _ A17.out).mono ?_); rintro e w' ⟨rfl, ⟨nd, rfl⟩⟩; refine ⟨_, rfl, ?_⟩; obtain ⟨hcz26_0, hcz26_1⟩ := zc2 BK237; obtain ⟨hfz26_0, hfz26_1⟩ := zf2 BK237))
            go_ret2
            exact ⟨zF, zB⟩
          · rw [if_neg c23] at H
            have c23b0 : (a0_0 == 2) = false := beq_eq_false_iff_ne.mpr c23
            have c23b1 : (a0_0 != 2) = true := bne_iff_ne.mpr c23
            by_cases c27 : a0_0 = 5
            · rw [if_pos c27] at H
              have c27b0 : (a0_0 == 5) = true := beq_iff_eq.mpr c27
              have c27b1 : (a0_0 != 5) = false := bne_eq_false_iff_eq.mpr c27
              clear c27
              simp only [Option.some.injEq, Prod.mk.injEq] at H
              obtain ⟨rfl, rfl⟩ := H
              have hnb28 := NB236_237.out
              have hnc28 := NB237_236.out
              obtain ⟨hcz29_0, hcz29_1, hcz29_2⟩ := zc3 BK236
              obtain ⟨hfz29_0, hfz29_1, hfz29_2⟩ := zf3 BK236
              go_wp2_with (first | ((with_reducible refine gate_callee (f := 36) rfl ?_); refine zG (some 28) Try.func36 #[.int .u8 a0_0] ?_; (with_reducible refine (budwoodref15_Import.calls a0_0 false _ A17.out).mono ?_); rintro e w' ⟨rfl, ⟨nd, rfl⟩⟩; refine ⟨_, rfl, ?_⟩; obtain ⟨hcz30_0, hcz30_1⟩ := zc2 BK237; obtain ⟨hfz30_0, hfz30_1⟩ := zf2 BK237))
              go_ret2
              exact ⟨zF, zB⟩
            · rw [if_neg c27] at H
              have c27b0 : (a0_0 == 5) = false := beq_eq_false_iff_ne.mpr c27
              have c27b1 : (a0_0 != 5) = true := bne_iff_ne.mpr c27
              simp only [Option.some.injEq, Prod.mk.injEq] at H
              obtain ⟨rfl, rfl⟩ := H
              have hnb31 := NB236_237.out
              have hnc31 := NB237_236.out
              obtain ⟨hcz32_0, hcz32_1, hcz32_2⟩ := zc3 BK236
              obtain ⟨hfz32_0, hfz32_1, hfz32_2⟩ := zf3 BK236
              go_wp2_with (first | ((with_reducible refine gate_callee (f := 36) rfl ?_); refine zG (some 28) Try.func36 #[.int .u8 a0_0] ?_; (with_reducible refine (budwoodref15_Import.calls a0_0 false _ A17.out).mono ?_); rintro e w' ⟨rfl, ⟨nd, rfl⟩⟩; refine ⟨_, rfl, ?_⟩; obtain ⟨hcz33_0, hcz33_1⟩ := zc2 BK237; obtain ⟨hfz33_0, hfz33_1⟩ := zf2 BK237))
              go_ret2
              exact ⟨zF, zB⟩

/-! ### budwoodref04_Uses: function 48 -/
set_option maxHeartbeats 8000000 in
set_option maxRecDepth 100000 in
theorem budwoodref04_Uses.calls (k : Nat) (a0 : Int) (r1 : Bool) (r2 : Bool) (r3 : Bool) (r4 : Bool) (w : World) (h : budwoodref04_Uses.f k a0 = some (r1, r2, r3, r4)) :
    Calls Try.prog 48 #[.int .u8 a0] w fun e w' => e = .returned (.agg #[.bool r1, .bool r2, .bool r3, .bool r4]) ∧ Below w.heap.size w w' := by
  have hu91 := Try.underlying91
  have HB := Aside0.mk (Below.refl w.heap.size w)
  have H : (if a0 = 2 then (some (true, false, false, true)) else (if a0 = 3 then (budwoodref04_Uses.j0 k a0 (a0 == 3)) else (if a0 = 4 then (budwoodref04_Uses.j0 k a0 (a0 == 4)) else (if a0 = 5 then (budwoodref04_Uses.j0 k a0 (a0 == 5)) else (if a0 = 6 then (budwoodref04_Uses.j0 k a0 (a0 == 6)) else (if a0 = 7 then (budwoodref04_Uses.j0 k a0 (a0 == 7)) else (if a0 = 8 then (budwoodref04_Uses.j0 k a0 (a0 == 8)) else (if a0 = 9 then (budwoodref04_Uses.j0 k a0 (a0 == 9)) else (budwoodref04_Uses.j0 k a0 (a0 == 10)))))))))) = some (r1, r2, r3, r4) := h
  clear h
  by_cases c2 : a0 = 2
  · rw [if_pos c2] at H
    have c2b0 : (a0 == 2) = true := beq_iff_eq.mpr c2
    have c2b1 : (a0 != 2) = false := bne_eq_false_iff_eq.mpr c2
    clear c2
    simp only [Option.some.injEq, Prod.mk.injEq] at H
    obtain ⟨rfl, rfl, rfl, rfl⟩ := H
    go_enter Try.func48, Try.ntmps48
    go_wp2_with (first | ((with_reducible refine gate_dst (N := 2) rfl ?_); refine zX (N := 2) (cs := #[.bool false, .bool false, .bool false, .bool false]) (t := 91) ?_ ?_; (focus first | (go_simp; done) | (go_simp; rfl)); intro gb241 hg w3 hbox hb; have BK241 := Aside0.mk (hbox); have GW241 := Aside0.mk (zS hg : w.heap.size ≤ gb241); have GE241 := Aside0.mk (zS hg : w.heap.size ≤ gb241); replace HB := Aside0.mk (below_step zB hb); clear hb hbox hg; obtain ⟨hcz4_0, hcz4_1, hcz4_2, hcz4_3⟩ := zc4 BK241; obtain ⟨hfz4_0, hfz4_1, hfz4_2, hfz4_3⟩ := zf4 BK241))
    refine bodyPost_ret (results_cell_row rfl _ _ gb241 91 #[.bool true, .bool false, .bool false, .bool true] (0, 0) _ rfl zV Try.underlying91 rfl (by kernel_rfl)) rfl ?_
    exact ⟨zF, zB⟩
  · rw [if_neg c2] at H
    have c2b0 : (a0 == 2) = false := beq_eq_false_iff_ne.mpr c2
    have c2b1 : (a0 != 2) = true := bne_iff_ne.mpr c2
    have HC5 := Aside0.mk H
    clear H
    go_enter Try.func48, Try.ntmps48
    go_upto_if 7 with (first | ((with_reducible refine gate_dst (N := 2) rfl ?_); refine zX (N := 2) (cs := #[.bool false, .bool false, .bool false, .bool false]) (t := 91) ?_ ?_; (focus first | (go_simp; done) | (go_simp; rfl)); intro gb241 hg w6 hbox hb; have BK241 := Aside0.mk (hbox); have GW241 := Aside0.mk (zS hg : w.heap.size ≤ gb241); have GE241 := Aside0.mk (zS hg : w.heap.size ≤ gb241); replace HB := Aside0.mk (below_step zB hb); clear hb hbox hg))
    (try simp only [Act.put, List.setIfInBounds_toArray, List.set_cons_zero, List.set_cons_succ])
    go_cut [7] (fun v7 wc => ∃ (kq : Nat) (x7_4 : Bool), v7 = .bool x7_4 ∧ Aside0 (budwoodref04_Uses.j0 kq a0 x7_4 = some (r1, r2, r3, r4)) ∧ Aside0 (kq ≤ k) ∧ Aside0 (wc.heap[gb241]? = some (.cells #[.bool false, .bool false, .bool false, .bool false] 91 (0, 0))) ∧ Aside0 (Below w.heap.size w wc))
    case first =>
      have H := HC5.out
      clear HC5
      by_cases c7 : a0 = 3
      · rw [if_pos c7] at H
        have c7b0 : (a0 == 3) = true := beq_iff_eq.mpr c7
        have c7b1 : (a0 != 3) = false := bne_eq_false_iff_eq.mpr c7
        clear c7
        (first | rw [c7b0] | (simp only [i64_w, i32_w]; rw [c7b0]) | skip)
        have H' := Aside0.mk H
        clear H
        go_wp2
        go_meet
        case rel => exact ⟨_, ((a0 == 3)), (zE), H', ⟨by first | omega | exact Nat.le_refl _⟩, ⟨zK⟩, ⟨zB⟩⟩
      · rw [if_neg c7] at H
        have c7b0 : (a0 == 3) = false := beq_eq_false_iff_ne.mpr c7
        have c7b1 : (a0 != 3) = true := bne_iff_ne.mpr c7
        (first | rw [c7b0] | (simp only [i64_w, i32_w]; rw [c7b0]) | skip)
        by_cases c8 : a0 = 4
        · rw [if_pos c8] at H
          have c8b0 : (a0 == 4) = true := beq_iff_eq.mpr c8
          have c8b1 : (a0 != 4) = false := bne_eq_false_iff_eq.mpr c8
          clear c8
          have H' := Aside0.mk H
          clear H
          go_wp2
          go_meet
          case rel => exact ⟨_, ((a0 == 4)), (zE), H', ⟨by first | omega | exact Nat.le_refl _⟩, ⟨zK⟩, ⟨zB⟩⟩
        · rw [if_neg c8] at H
          have c8b0 : (a0 == 4) = false := beq_eq_false_iff_ne.mpr c8
          have c8b1 : (a0 != 4) = true := bne_iff_ne.mpr c8
          by_cases c9 : a0 = 5
          · rw [if_pos c9] at H
            have c9b0 : (a0 == 5) = true := beq_iff_eq.mpr c9
            have c9b1 : (a0 != 5) = false := bne_eq_false_iff_eq.mpr c9
            clear c9
            have H' := Aside0.mk H
            clear H
            go_wp2
            go_meet
            case rel => exact ⟨_, ((a0 == 5)), (zE), H', ⟨by first | omega | exact Nat.le_refl _⟩, ⟨zK⟩, ⟨zB⟩⟩
          · rw [if_neg c9] at H
            have c9b0 : (a0 == 5) = false := beq_eq_false_iff_ne.mpr c9
            have c9b1 : (a0 != 5) = true := bne_iff_ne.mpr c9
            by_cases c10 : a0 = 6
            · rw [if_pos c10] at H
              have c10b0 : (a0 == 6) = true := beq_iff_eq.mpr c10
              have c10b1 : (a0 != 6) = false := bne_eq_false_iff_eq.mpr c10
              clear c10
              have H' := Aside0.mk H
              clear H
              go_wp2
              go_meet
              case rel => exact ⟨_, ((a0 == 6)), (zE), H', ⟨by first | omega | exact Nat.le_refl _⟩, ⟨zK⟩, ⟨zB⟩⟩
            · rw [if_neg c10] at H
              have c10b0 : (a0 == 6) = false := beq_eq_false_iff_ne.mpr c10
              have c10b1 : (a0 != 6) = true := bne_iff_ne.mpr c10
              by_cases c11 : a0 = 7
              · rw [if_pos c11] at H
                have c11b0 : (a0 == 7) = true := beq_iff_eq.mpr c11
                have c11b1 : (a0 != 7) = false := bne_eq_false_iff_eq.mpr c11
                clear c11
                have H' := Aside0.mk H
                clear H
                go_wp2
                go_meet
                case rel => exact ⟨_, ((a0 == 7)), (zE), H', ⟨by first | omega | exact Nat.le_refl _⟩, ⟨zK⟩, ⟨zB⟩⟩
              · rw [if_neg c11] at H
                have c11b0 : (a0 == 7) = false := beq_eq_false_iff_ne.mpr c11
                have c11b1 : (a0 != 7) = true := bne_iff_ne.mpr c11
                by_cases c12 : a0 = 8
                · rw [if_pos c12] at H
                  have c12b0 : (a0 == 8) = true := beq_iff_eq.mpr c12
                  have c12b1 : (a0 != 8) = false := bne_eq_false_iff_eq.mpr c12
                  clear c12
                  have H' := Aside0.mk H
                  clear H
                  go_wp2
                  go_meet
                  case rel => exact ⟨_, ((a0 == 8)), (zE), H', ⟨by first | omega | exact Nat.le_refl _⟩, ⟨zK⟩, ⟨zB⟩⟩
                · rw [if_neg c12] at H
                  have c12b0 : (a0 == 8) = false := beq_eq_false_iff_ne.mpr c12
                  have c12b1 : (a0 != 8) = true := bne_iff_ne.mpr c12
                  by_cases c13 : a0 = 9
                  · rw [if_pos c13] at H
                    have c13b0 : (a0 == 9) = true := beq_iff_eq.mpr c13
                    have c13b1 : (a0 != 9) = false := bne_eq_false_iff_eq.mpr c13
                    clear c13
                    have H' := Aside0.mk H
                    clear H
                    go_wp2
                    go_meet
                    case rel => exact ⟨_, ((a0 == 9)), (zE), H', ⟨by first | omega | exact Nat.le_refl _⟩, ⟨zK⟩, ⟨zB⟩⟩
                  · rw [if_neg c13] at H
                    have c13b0 : (a0 == 9) = false := beq_eq_false_iff_ne.mpr c13
                    have c13b1 : (a0 != 9) = true := bne_iff_ne.mpr c13
                    have H' := Aside0.mk H
                    clear H
                    go_wp2
                    go_meet
                    case rel => exact ⟨_, ((a0 == 10)), (zE), H', ⟨by first | omega | exact Nat.le_refl _⟩, ⟨zK⟩, ⟨zB⟩⟩
    case rest =>
      clear HC5
      try clear c1
      try clear c2
      try clear c2b0
      try clear c2b1
      try clear p2
      try clear c4
      try clear c7
      try clear c7b0
      try clear c7b1
      try clear c8
      try clear c8b0
      try clear c8b1
      try clear c9
      try clear c9b0
      try clear c9b1
      try clear c10
      try clear c10b0
      try clear c10b1
      try clear c11
      try clear c11b0
      try clear c11b1
      try clear c12
      try clear c12b0
      try clear c12b1
      try clear c13
      try clear c13b0
      try clear c13b1
      try clear hcz4_0 hcz4_1 hcz4_2 hcz4_3
      try clear hfz4_0 hfz4_1 hfz4_2 hfz4_3
      obtain ⟨kq, x7_4, rfl, HA, HJ4, BK241, HB⟩ := hcut
      cases kq with
      | zero => exact absurd HA.out (by simp [budwoodref04_Uses.j0])
      | succ kj4 =>
        have H := HA.out
        clear HA
        simp only [budwoodref04_Uses.j0] at H
        by_cases c14 : x7_4 = true
        · subst c14
          replace H := zT H
          simp only [Option.some.injEq, Prod.mk.injEq] at H
          obtain ⟨rfl, rfl, rfl, rfl⟩ := H
          obtain ⟨hcz15_0, hcz15_1, hcz15_2, hcz15_3⟩ := zc4 BK241
          obtain ⟨hfz15_0, hfz15_1, hfz15_2, hfz15_3⟩ := zf4 BK241
          go_wp2
          refine bodyPost_ret (results_cell_row rfl _ _ gb241 91 #[.bool true, .bool true, .bool true, .bool false] (0, 0) _ rfl zV Try.underlying91 rfl (by kernel_rfl)) rfl ?_
          exact ⟨zF, zB⟩
        · replace c14 := Bool.eq_false_iff.mpr c14
          subst c14
          replace H := zU H
          have HC16 := Aside0.mk H
          clear H
          go_upto_if 17 with (fail)
          go_cut [17] (fun v17 wc => ∃ (kq : Nat) (x17_15 : Bool), v17 = .bool x17_15 ∧ Aside0 (budwoodref04_Uses.j1 kq a0 x17_15 = some (r1, r2, r3, r4)) ∧ Aside0 (kq ≤ kj4) ∧ Aside0 (wc.heap[gb241]? = some (.cells #[.bool false, .bool false, .bool false, .bool false] 91 (0, 0))) ∧ Aside0 (Below w.heap.size w wc))
          case first =>
            have H := HC16.out
            clear HC16
            by_cases c17 : a0 = 11
            · rw [if_pos c17] at H
              have c17b0 : (a0 == 11) = true := beq_iff_eq.mpr c17
              have c17b1 : (a0 != 11) = false := bne_eq_false_iff_eq.mpr c17
              clear c17
              (first | rw [c17b0] | (simp only [i64_w, i32_w]; rw [c17b0]) | skip)
              have H' := Aside0.mk H
              clear H
              go_wp2
              go_meet
              case rel => exact ⟨_, ((a0 == 11)), (zE), H', ⟨by have := HJ4.out; first | omega | exact Nat.le_refl _⟩, ⟨zK⟩, ⟨zB⟩⟩
            · rw [if_neg c17] at H
              have c17b0 : (a0 == 11) = false := beq_eq_false_iff_ne.mpr c17
              have c17b1 : (a0 != 11) = true := bne_iff_ne.mpr c17
              (first | rw [c17b0] | (simp only [i64_w, i32_w]; rw [c17b0]) | skip)
              by_cases c18 : a0 = 12
              · rw [if_pos c18] at H
                have c18b0 : (a0 == 12) = true := beq_iff_eq.mpr c18
                have c18b1 : (a0 != 12) = false := bne_eq_false_iff_eq.mpr c18
                clear c18
                have H' := Aside0.mk H
                clear H
                go_wp2
                go_meet
                case rel => exact ⟨_, ((a0 == 12)), (zE), H', ⟨by have := HJ4.out; first | omega | exact Nat.le_refl _⟩, ⟨zK⟩, ⟨zB⟩⟩
              · rw [if_neg c18] at H
                have c18b0 : (a0 == 12) = false := beq_eq_false_iff_ne.mpr c18
                have c18b1 : (a0 != 12) = true := bne_iff_ne.mpr c18
                by_cases c19 : a0 = 13
                · rw [if_pos c19] at H
                  have c19b0 : (a0 == 13) = true := beq_iff_eq.mpr c19
                  have c19b1 : (a0 != 13) = false := bne_eq_false_iff_eq.mpr c19
                  clear c19
                  have H' := Aside0.mk H
                  clear H
                  go_wp2
                  go_meet
                  case rel => exact ⟨_, ((a0 == 13)), (zE), H', ⟨by have := HJ4.out; first | omega | exact Nat.le_refl _⟩, ⟨zK⟩, ⟨zB⟩⟩
                · rw [if_neg c19] at H
                  have c19b0 : (a0 == 13) = false := beq_eq_false_iff_ne.mpr c19
                  have c19b1 : (a0 != 13) = true := bne_iff_ne.mpr c19
                  by_cases c20 : a0 = 15
                  · rw [if_pos c20] at H
                    have c20b0 : (a0 == 15) = true := beq_iff_eq.mpr c20
                    have c20b1 : (a0 != 15) = false := bne_eq_false_iff_eq.mpr c20
                    clear c20
                    have H' := Aside0.mk H
                    clear H
                    go_wp2
                    go_meet
                    case rel => exact ⟨_, ((a0 == 15)), (zE), H', ⟨by have := HJ4.out; first | omega | exact Nat.le_refl _⟩, ⟨zK⟩, ⟨zB⟩⟩
                  · rw [if_neg c20] at H
                    have c20b0 : (a0 == 15) = false := beq_eq_false_iff_ne.mpr c20
                    have c20b1 : (a0 != 15) = true := bne_iff_ne.mpr c20
                    have H' := Aside0.mk H
                    clear H
                    go_wp2
                    go_meet
                    case rel => exact ⟨_, ((a0 == 16)), (zE), H', ⟨by have := HJ4.out; first | omega | exact Nat.le_refl _⟩, ⟨zK⟩, ⟨zB⟩⟩
          case rest =>
            clear HC16
            try clear c1
            try clear c2
            try clear c2b0
            try clear c2b1
            try clear p2
            try clear c4
            try clear c7
            try clear c7b0
            try clear c7b1
            try clear c8
            try clear c8b0
            try clear c8b1
            try clear c9
            try clear c9b0
            try clear c9b1
            try clear c10
            try clear c10b0
            try clear c10b1
            try clear c11
            try clear c11b0
            try clear c11b1
            try clear c12
            try clear c12b0
            try clear c12b1
            try clear c13
            try clear c13b0
            try clear c13b1
            try clear c14
            try clear c17
            try clear c17b0
            try clear c17b1
            try clear c18
            try clear c18b0
            try clear c18b1
            try clear c19
            try clear c19b0
            try clear c19b1
            try clear c20
            try clear c20b0
            try clear c20b1
            try clear hcz15_0 hcz15_1 hcz15_2 hcz15_3
            try clear hcz4_0 hcz4_1 hcz4_2 hcz4_3
            try clear hfz15_0 hfz15_1 hfz15_2 hfz15_3
            try clear hfz4_0 hfz4_1 hfz4_2 hfz4_3
            try clear p2
            obtain ⟨kq, x17_15, rfl, HA, HJ15, BK241, HB⟩ := hcut
            cases kq with
            | zero => exact absurd HA.out (by simp [budwoodref04_Uses.j1])
            | succ kj15 =>
              have H := HA.out
              clear HA
              simp only [budwoodref04_Uses.j1] at H
              by_cases c21 : x17_15 = true
              · subst c21
                replace H := zT H
                simp only [Option.some.injEq, Prod.mk.injEq] at H
                obtain ⟨rfl, rfl, rfl, rfl⟩ := H
                obtain ⟨hcz22_0, hcz22_1, hcz22_2, hcz22_3⟩ := zc4 BK241
                obtain ⟨hfz22_0, hfz22_1, hfz22_2, hfz22_3⟩ := zf4 BK241
                go_wp2
                refine bodyPost_ret (results_cell_row rfl _ _ gb241 91 #[.bool true, .bool true, .bool false, .bool true] (0, 0) _ rfl zV Try.underlying91 rfl (by kernel_rfl)) rfl ?_
                exact ⟨zF, zB⟩
              · replace c21 := Bool.eq_false_iff.mpr c21
                subst c21
                replace H := zU H
                have HC23 := Aside0.mk H
                clear H
                go_upto_if 24 with (fail)
                go_cut [24] (fun v24 wc => ∃ (kq : Nat) (x24_22 : Bool), v24 = .bool x24_22 ∧ Aside0 (budwoodref04_Uses.j2 kq a0 x24_22 = some (r1, r2, r3, r4)) ∧ Aside0 (kq ≤ kj15) ∧ Aside0 (wc.heap[gb241]? = some (.cells #[.bool false, .bool false, .bool false, .bool false] 91 (0, 0))) ∧ Aside0 (Below w.heap.size w wc))
                case first =>
                  have H := HC23.out
                  clear HC23
                  by_cases c24 : a0 = 14
                  · rw [if_pos c24] at H
                    have c24b0 : (a0 == 14) = true := beq_iff_eq.mpr c24
                    have c24b1 : (a0 != 14) = false := bne_eq_false_iff_eq.mpr c24
                    clear c24
                    (first | rw [c24b0] | (simp only [i64_w, i32_w]; rw [c24b0]) | skip)
                    have H' := Aside0.mk H
                    clear H
                    go_wp2
                    go_meet
                    case rel => exact ⟨_, ((a0 == 14)), (zE), H', ⟨by have := HJ4.out; have := HJ15.out; first | omega | exact Nat.le_refl _⟩, ⟨zK⟩, ⟨zB⟩⟩
                  · rw [if_neg c24] at H
                    have c24b0 : (a0 == 14) = false := beq_eq_false_iff_ne.mpr c24
                    have c24b1 : (a0 != 14) = true := bne_iff_ne.mpr c24
                    (first | rw [c24b0] | (simp only [i64_w, i32_w]; rw [c24b0]) | skip)
                    by_cases c25 : a0 = 17
                    · rw [if_pos c25] at H
                      have c25b0 : (a0 == 17) = true := beq_iff_eq.mpr c25
                      have c25b1 : (a0 != 17) = false := bne_eq_false_iff_eq.mpr c25
                      clear c25
                      have H' := Aside0.mk H
                      clear H
                      go_wp2
                      go_meet
                      case rel => exact ⟨_, ((a0 == 17)), (zE), H', ⟨by have := HJ4.out; have := HJ15.out; first | omega | exact Nat.le_refl _⟩, ⟨zK⟩, ⟨zB⟩⟩
                    · rw [if_neg c25] at H
                      have c25b0 : (a0 == 17) = false := beq_eq_false_iff_ne.mpr c25
                      have c25b1 : (a0 != 17) = true := bne_iff_ne.mpr c25
                      have H' := Aside0.mk H
                      clear H
                      go_wp2
                      go_meet
                      case rel => exact ⟨_, ((a0 == 21)), (zE), H', ⟨by have := HJ4.out; have := HJ15.out; first | omega | exact Nat.le_refl _⟩, ⟨zK⟩, ⟨zB⟩⟩
                case rest =>
                  clear HC23
                  try clear c1
                  try clear c2
                  try clear c2b0
                  try clear c2b1
                  try clear p2
                  try clear c4
                  try clear c7
                  try clear c7b0
                  try clear c7b1
                  try clear c8
                  try clear c8b0
                  try clear c8b1
                  try clear c9
                  try clear c9b0
                  try clear c9b1
                  try clear c10
                  try clear c10b0
                  try clear c10b1
                  try clear c11
                  try clear c11b0
                  try clear c11b1
                  try clear c12
                  try clear c12b0
                  try clear c12b1
                  try clear c13
                  try clear c13b0
                  try clear c13b1
                  try clear c14
                  try clear c17
                  try clear c17b0
                  try clear c17b1
                  try clear c18
                  try clear c18b0
                  try clear c18b1
                  try clear c19
                  try clear c19b0
                  try clear c19b1
                  try clear c20
                  try clear c20b0
                  try clear c20b1
                  try clear c21
                  try clear c24
                  try clear c24b0
                  try clear c24b1
                  try clear c25
                  try clear c25b0
                  try clear c25b1
                  try clear hcz15_0 hcz15_1 hcz15_2 hcz15_3
                  try clear hcz22_0 hcz22_1 hcz22_2 hcz22_3
                  try clear hcz4_0 hcz4_1 hcz4_2 hcz4_3
                  try clear hfz15_0 hfz15_1 hfz15_2 hfz15_3
                  try clear hfz22_0 hfz22_1 hfz22_2 hfz22_3
                  try clear hfz4_0 hfz4_1 hfz4_2 hfz4_3
                  try clear p2
                  obtain ⟨kq, x24_22, rfl, HA, HJ22, BK241, HB⟩ := hcut
                  cases kq with
                  | zero => exact absurd HA.out (by simp [budwoodref04_Uses.j2])
                  | succ kj22 =>
                    have H := HA.out
                    clear HA
                    simp only [budwoodref04_Uses.j2] at H
                    by_cases c26 : x24_22 = true
                    · subst c26
                      replace H := zT H
                      simp only [Option.some.injEq, Prod.mk.injEq] at H
                      obtain ⟨rfl, rfl, rfl, rfl⟩ := H
                      obtain ⟨hcz27_0, hcz27_1, hcz27_2, hcz27_3⟩ := zc4 BK241
                      obtain ⟨hfz27_0, hfz27_1, hfz27_2, hfz27_3⟩ := zf4 BK241
                      go_wp2
                      refine bodyPost_ret (results_cell_row rfl _ _ gb241 91 #[.bool false, .bool false, .bool false, .bool true] (0, 0) _ rfl zV Try.underlying91 rfl (by kernel_rfl)) rfl ?_
                      exact ⟨zF, zB⟩
                    · replace c26 := Bool.eq_false_iff.mpr c26
                      subst c26
                      replace H := zU H
                      by_cases c28 : a0 = 19
                      · rw [if_pos c28] at H
                        have c28b0 : (a0 == 19) = true := beq_iff_eq.mpr c28
                        have c28b1 : (a0 != 19) = false := bne_eq_false_iff_eq.mpr c28
                        clear c28
                        simp only [Option.some.injEq, Prod.mk.injEq] at H
                        obtain ⟨rfl, rfl, rfl, rfl⟩ := H
                        obtain ⟨hcz29_0, hcz29_1, hcz29_2, hcz29_3⟩ := zc4 BK241
                        obtain ⟨hfz29_0, hfz29_1, hfz29_2, hfz29_3⟩ := zf4 BK241
                        go_wp2
                        refine bodyPost_ret (results_cell_row rfl _ _ gb241 91 #[.bool false, .bool true, .bool false, .bool false] (0, 0) _ rfl zV Try.underlying91 rfl (by kernel_rfl)) rfl ?_
                        exact ⟨zF, zB⟩
                      · rw [if_neg c28] at H
                        have c28b0 : (a0 == 19) = false := beq_eq_false_iff_ne.mpr c28
                        have c28b1 : (a0 != 19) = true := bne_iff_ne.mpr c28
                        simp only [Option.some.injEq, Prod.mk.injEq] at H
                        obtain ⟨rfl, rfl, rfl, rfl⟩ := H
                        obtain ⟨hcz30_0, hcz30_1, hcz30_2, hcz30_3⟩ := zc4 BK241
                        obtain ⟨hfz30_0, hfz30_1, hfz30_2, hfz30_3⟩ := zf4 BK241
                        go_wp2
                        refine bodyPost_ret (results_cell_row rfl _ _ gb241 91 #[.bool false, .bool false, .bool false, .bool false] (0, 0) _ rfl zV Try.underlying91 rfl (by kernel_rfl)) rfl ?_
                        exact ⟨zF, zB⟩

end Go.Proofs.Ytllkloneapjgjaa.P
