-- WRITTEN BY bud.py (a program of this session's over the kit's print). Not trusted: Lean checks it.
import Derived.Test.YtllkloneapjgjaaPx0
import Derived.Test.YtllkloneapjgjaaPxf
import Derived.Test.YtllkloneapjgjaaPx12
import Derived.Test.YtllkloneapjgjaaPx17
namespace Go.Proofs.Ytllkloneapjgjaa.P
open Go.RowKit Go.Proofs.YtllkloneapjgjaaW.PrintWords Go.Proofs.YtllkloneapjgjaaW.PrintLast Go.Proofs.YtllkloneapjgjaaW.PrintMore
attribute [local go_sem] max2_int min2_int max_two min_two max_three min_three max_four min_four   -- for this text's walks alone
set_option linter.unusedVariables false
set_option linter.unusedSimpArgs false

/-! ### budwoodref12_Pages: function 42 -/
set_option maxHeartbeats 8000000 in
set_option maxRecDepth 100000 in
theorem budwoodref12_Pages.calls (a0_0 : Int) (a0_1 : Int) (r : Int) (w : World) (h : budwoodref12_Pages.f a0_0 a0_1 = some r) :
    Calls Try.prog 42 #[.agg #[.int .i64 a0_0, .int .i64 a0_1]] w fun e w' => e = .returned (.int .i64 r) ∧ Below w.heap.size w w' := by
  have hu69 := Try.underlying69
  have HB := Aside0.mk (Below.refl w.heap.size w)
  have H : (if a0_0 < 0 then (some 0) else (if a0_1 < 0 then (some 0) else (if a0_0 > 256 then (some 0) else (if a0_1 > 256 then (some 0) else (some (wrap64 (a0_0 + a0_1))))))) = some r := h
  clear h
  by_cases c2 : a0_0 < 0
  · rw [if_pos c2] at H
    have c2b0 : decide (a0_0 < 0) = true := decide_eq_true c2
    clear c2
    obtain rfl := Option.some.inj H
    go_enter Try.func42, Try.ntmps42
    go_wp2_with (first | ((with_reducible refine gate_dst (N := 1) rfl ?_); refine zX (N := 1) (cs := #[.int .i64 a0_0, .int .i64 a0_1]) (t := 69) ?_ ?_; (focus first | (go_simp; done) | (go_simp; rfl)); intro gb351 hg w3 hbox hb; have BK351 := Aside0.mk (hbox); have GW351 := Aside0.mk (zS hg : w.heap.size ≤ gb351); have GE351 := Aside0.mk (zS hg : w.heap.size ≤ gb351); replace HB := Aside0.mk (below_step zB hb); clear hb hbox hg; obtain ⟨hcz4_0, hcz4_1⟩ := zc2 BK351; obtain ⟨hfz4_0, hfz4_1⟩ := zf2 BK351))
    go_ret
    exact ⟨zF, zB⟩
  · rw [if_neg c2] at H
    have c2b0 : decide (a0_0 < 0) = false := decide_eq_false c2
    clear c2
    by_cases c5 : a0_1 < 0
    · rw [if_pos c5] at H
      have c5b0 : decide (a0_1 < 0) = true := decide_eq_true c5
      clear c5
      obtain rfl := Option.some.inj H
      go_enter Try.func42, Try.ntmps42
      go_wp2_with (first | ((with_reducible refine gate_dst (N := 1) rfl ?_); refine zX (N := 1) (cs := #[.int .i64 a0_0, .int .i64 a0_1]) (t := 69) ?_ ?_; (focus first | (go_simp; done) | (go_simp; rfl)); intro gb351 hg w6 hbox hb; have BK351 := Aside0.mk (hbox); have GW351 := Aside0.mk (zS hg : w.heap.size ≤ gb351); have GE351 := Aside0.mk (zS hg : w.heap.size ≤ gb351); replace HB := Aside0.mk (below_step zB hb); clear hb hbox hg; obtain ⟨hcz7_0, hcz7_1⟩ := zc2 BK351; obtain ⟨hfz7_0, hfz7_1⟩ := zf2 BK351))
      go_ret
      exact ⟨zF, zB⟩
    · rw [if_neg c5] at H
      have c5b0 : decide (a0_1 < 0) = false := decide_eq_false c5
      clear c5
      by_cases c8 : a0_0 > 256
      · rw [if_pos c8] at H
        have c8b0 : decide (256 < a0_0) = true := decide_eq_true c8
        clear c8
        obtain rfl := Option.some.inj H
        go_enter Try.func42, Try.ntmps42
        go_wp2_with (first | ((with_reducible refine gate_dst (N := 1) rfl ?_); refine zX (N := 1) (cs := #[.int .i64 a0_0, .int .i64 a0_1]) (t := 69) ?_ ?_; (focus first | (go_simp; done) | (go_simp; rfl)); intro gb351 hg w9 hbox hb; have BK351 := Aside0.mk (hbox); have GW351 := Aside0.mk (zS hg : w.heap.size ≤ gb351); have GE351 := Aside0.mk (zS hg : w.heap.size ≤ gb351); replace HB := Aside0.mk (below_step zB hb); clear hb hbox hg; obtain ⟨hcz10_0, hcz10_1⟩ := zc2 BK351; obtain ⟨hfz10_0, hfz10_1⟩ := zf2 BK351))
        go_ret
        exact ⟨zF, zB⟩
      · rw [if_neg c8] at H
        have c8b0 : decide (256 < a0_0) = false := decide_eq_false c8
        clear c8
        by_cases c11 : a0_1 > 256
        · rw [if_pos c11] at H
          have c11b0 : decide (256 < a0_1) = true := decide_eq_true c11
          clear c11
          obtain rfl := Option.some.inj H
          go_enter Try.func42, Try.ntmps42
          go_wp2_with (first | ((with_reducible refine gate_dst (N := 1) rfl ?_); refine zX (N := 1) (cs := #[.int .i64 a0_0, .int .i64 a0_1]) (t := 69) ?_ ?_; (focus first | (go_simp; done) | (go_simp; rfl)); intro gb351 hg w12 hbox hb; have BK351 := Aside0.mk (hbox); have GW351 := Aside0.mk (zS hg : w.heap.size ≤ gb351); have GE351 := Aside0.mk (zS hg : w.heap.size ≤ gb351); replace HB := Aside0.mk (below_step zB hb); clear hb hbox hg; obtain ⟨hcz13_0, hcz13_1⟩ := zc2 BK351; obtain ⟨hfz13_0, hfz13_1⟩ := zf2 BK351))
          go_ret
          exact ⟨zF, zB⟩
        · rw [if_neg c11] at H
          have c11b0 : decide (256 < a0_1) = false := decide_eq_false c11
          clear c11
          obtain rfl := Option.some.inj H
          go_enter Try.func42, Try.ntmps42
          go_wp2_with (first | ((with_reducible refine gate_dst (N := 1) rfl ?_); refine zX (N := 1) (cs := #[.int .i64 a0_0, .int .i64 a0_1]) (t := 69) ?_ ?_; (focus first | (go_simp; done) | (go_simp; rfl)); intro gb351 hg w14 hbox hb; have BK351 := Aside0.mk (hbox); have GW351 := Aside0.mk (zS hg : w.heap.size ≤ gb351); have GE351 := Aside0.mk (zS hg : w.heap.size ≤ gb351); replace HB := Aside0.mk (below_step zB hb); clear hb hbox hg; obtain ⟨hcz15_0, hcz15_1⟩ := zc2 BK351; obtain ⟨hfz15_0, hfz15_1⟩ := zf2 BK351))
          go_ret
          exact ⟨zF, zB⟩

/-! ### budwoodref12_Words: function 28 -/
set_option maxHeartbeats 8000000 in
set_option maxRecDepth 100000 in
theorem budwoodref12_Words.calls (a0_0 : Int) (a0_1 : Int) (r : Int) (w : World) (h : budwoodref12_Words.f a0_0 a0_1 = some r) :
    Calls Try.prog 28 #[.agg #[.int .i64 a0_0, .int .i64 a0_1]] w fun e w' => e = .returned (.int .i64 r) ∧ Below w.heap.size w w' := by
  have hu69 := Try.underlying69
  have HB := Aside0.mk (Below.refl w.heap.size w)
  have H : ((budwoodref12_Pages.f a0_0 a0_1).bind fun t353 => (some (wrap64 (16 * t353)))) = some r := h
  clear h
  replace H := Option.bind_eq_some_iff.mp H
  obtain ⟨t353, A20, H⟩ := H
  replace H : (some (wrap64 (16 * t353))) = some r := H
  have A2 := Aside0.mk A20
  clear A20
  obtain rfl := Option.some.inj H
  go_enter Try.func28, Try.ntmps28
  go_wp2_with (first | ((with_reducible refine gate_dst (N := 1) rfl ?_); refine zX (N := 1) (cs := #[.int .i64 a0_0, .int .i64 a0_1]) (t := 69) ?_ ?_; (focus first | (go_simp; done) | (go_simp; rfl)); intro gb352 hg w3 hbox hb; have BK352 := Aside0.mk (hbox); have GW352 := Aside0.mk (zS hg : w.heap.size ≤ gb352); have GE352 := Aside0.mk (zS hg : w.heap.size ≤ gb352); replace HB := Aside0.mk (below_step zB hb); clear hb hbox hg; obtain ⟨hcz4_0, hcz4_1⟩ := zc2 BK352; obtain ⟨hfz4_0, hfz4_1⟩ := zf2 BK352) | ((with_reducible refine gate_callee (f := 42) rfl ?_); refine zG (some 4) Try.func42 #[.agg #[.int .i64 a0_0, .int .i64 a0_1]] ?_; (with_reducible refine (budwoodref12_Pages.calls a0_0 a0_1 t353 _ A2.out).mono ?_); rintro e w5 ⟨rfl, hb⟩; refine ⟨_, rfl, ?_⟩; replace BK352 := Aside0.mk (zL BK352 hb); replace HB := Aside0.mk (below_step zB hb); (try clear hb); (try clear hb2); (try clear hk); (try clear hi)))
  go_ret
  exact ⟨zF, zB⟩

/-! ### budwoodref12_Of: function 29 -/
set_option maxHeartbeats 8000000 in
set_option maxRecDepth 100000 in
theorem budwoodref12_Of.calls (a0_0 : ByteArray) (A0_1 : Option Addr) (c0_1 : Nat) (l0_1 : List ByteArray) (A0_2 : Option Addr) (c0_2 : Nat) (l0_2 : List ByteArray) (A0_3 : Option Addr) (c0_3 : Nat) (l0_3 : List Int) (A0_4 : Option Addr) (c0_4 : Nat) (l0_4 : List Int) (A0_5 : Option Addr) (c0_5 : Nat) (l0_5 : List (S53)) (r1 : Int) (r2 : Int) (w : World) (hr0_1 : Kd.C Kd.string w A0_1 l0_1.length l0_1) (hc0_1 : l0_1.length ≤ c0_1) (hr0_2 : Kd.C Kd.string w A0_2 l0_2.length l0_2) (hc0_2 : l0_2.length ≤ c0_2) (hr0_3 : Kd.C (Kd.int .u32) w A0_3 l0_3.length l0_3) (hc0_3 : l0_3.length ≤ c0_3) (hr0_4 : Kd.C (Kd.int .u32) w A0_4 l0_4.length l0_4) (hc0_4 : l0_4.length ≤ c0_4) (hr0_5 : Kd.C k53 w A0_5 l0_5.length l0_5) (hc0_5 : l0_5.length ≤ c0_5) (h : budwoodref12_Of.f a0_0 l0_1 l0_2 l0_3 l0_4 l0_5 = some (r1, r2)) :
    Calls Try.prog 29 #[.agg #[.string a0_0, .slice A0_1 l0_1.length c0_1, .slice A0_2 l0_2.length c0_2, .slice A0_3 l0_3.length c0_3, .slice A0_4 l0_4.length c0_4, .slice A0_5 l0_5.length c0_5]] w fun e w' => e = .returned (.agg #[.int .i64 r1, .int .i64 r2]) ∧ Below w.heap.size w w' := by
  have hu26 := Try.underlying26
  have hu69 := Try.underlying69
  have HR0_1 := Aside0.mk hr0_1
  have HC0_1 := Aside0.mk hc0_1
  clear hr0_1 hc0_1
  have HR0_2 := Aside0.mk hr0_2
  have HC0_2 := Aside0.mk hc0_2
  clear hr0_2 hc0_2
  have HR0_3 := Aside0.mk hr0_3
  have HC0_3 := Aside0.mk hc0_3
  clear hr0_3 hc0_3
  have HR0_4 := Aside0.mk hr0_4
  have HC0_4 := Aside0.mk hc0_4
  clear hr0_4 hc0_4
  have HR0_5 := Aside0.mk hr0_5
  have HC0_5 := Aside0.mk hc0_5
  clear hr0_5 hc0_5
  have HB := Aside0.mk (Below.refl w.heap.size w)
  have H : ((budwoodref12_pages.f (l0_3.length : Int)).bind fun t356 => ((budwoodref12_pages.f (l0_4.length : Int)).bind fun t357 => (some (t356, t357)))) = some (r1, r2) := h
  clear h
  replace H := Option.bind_eq_some_iff.mp H
  obtain ⟨t356, A20, H⟩ := H
  replace H : ((budwoodref12_pages.f (l0_4.length : Int)).bind fun t357 => (some (t356, t357))) = some (r1, r2) := H
  have A2 := Aside0.mk A20
  clear A20
  replace H := Option.bind_eq_some_iff.mp H
  obtain ⟨t357, A30, H⟩ := H
  replace H : (some (t356, t357)) = some (r1, r2) := H
  have A3 := Aside0.mk A30
  clear A30
  simp only [Option.some.injEq, Prod.mk.injEq] at H
  obtain ⟨rfl, rfl⟩ := H
  go_enter Try.func29, Try.ntmps29
  try go_wp2_with (first | ((with_reducible refine gate_dst (N := 1) rfl ?_); refine zX (N := 1) (cs := #[.string a0_0, .slice A0_1 l0_1.length c0_1, .slice A0_2 l0_2.length c0_2, .slice A0_3 l0_3.length c0_3, .slice A0_4 l0_4.length c0_4, .slice A0_5 l0_5.length c0_5]) (t := 26) ?_ ?_; (focus first | (go_simp; done) | (go_simp; rfl)); intro gb354 hg w4 hbox hb; have BK354 := Aside0.mk (hbox); have GW354 := Aside0.mk (zS hg : w.heap.size ≤ gb354); have GE354 := Aside0.mk (zS hg : w.heap.size ≤ gb354); replace HB := Aside0.mk (below_step zB hb); clear hb hbox hg) | ((with_reducible refine gate_dst (N := 2) rfl ?_); refine zX (N := 2) (cs := #[.int .i64 0, .int .i64 0]) (t := 69) ?_ ?_; (focus first | (go_simp; done) | (go_simp; rfl)); intro gb355 hg w5 hbox hb; have BK355 := Aside0.mk (hbox); have GW355 := Aside0.mk (zS hg : w.heap.size ≤ gb355); have GE355 := Aside0.mk (zS hg : w.heap.size ≤ gb355); have NB354_355 := Aside0.mk (zlt hg BK354 : gb354 ≠ gb355); have NB355_354 := Aside0.mk (zgt hg BK354 : gb355 ≠ gb354); replace BK354 := Aside0.mk (zL BK354 hb); replace HB := Aside0.mk (below_step zB hb); clear hb hbox hg))
  have n0_ := Aside0.mk (blk_drew BK354.out)
  have n1_ := Aside0.mk (blk_drew BK355.out)
  have n2_ := Aside0.mk (below_drew1 HB.out)
  clear BK354
  clear BK355
  clear HB
  have BK354 := n0_
  have BK355 := n1_
  have HB := n2_
  clear n0_ n1_ n2_
  refine start_ (n := 10) (S := fun w' => w'.cell? ⟨gb354, 0, none⟩ = some (.string a0_0) ∧ w'.cell? ⟨gb354, 1, none⟩ = some (.slice A0_1 l0_1.length c0_1) ∧ w'.cell? ⟨gb354, 2, none⟩ = some (.slice A0_2 l0_2.length c0_2) ∧ w'.cell? ⟨gb354, 3, none⟩ = some (.slice A0_3 l0_3.length c0_3) ∧ w'.cell? ⟨gb354, 4, none⟩ = some (.slice A0_4 l0_4.length c0_4) ∧ w'.cell? ⟨gb354, 5, none⟩ = some (.slice A0_5 l0_5.length c0_5)) (ds := []) #[false, false, false, false, false, false, false, false, false, false] (by kernel_rfl) rfl rfl ⟨(blk_cell BK354.out 0).trans rfl, (blk_cell BK354.out 1).trans rfl, (blk_cell BK354.out 2).trans rfl, (blk_cell BK354.out 3).trans rfl, (blk_cell BK354.out 4).trans rfl, (blk_cell BK354.out 5).trans rfl⟩ (fun hHeld => ?_); refine with_tabW budwoodref12_Of.tab1 budwoodref12_Of.bits1 (fun HT_ HW_ => ?_)
  generalize w5.drew = w6 at BK354 BK355 HB hHeld ⊢
  refine pure_ (i := 0) (N := some 3) (v := ?_) (a' := ?_) #[true, false, false, false, false, false, false, false, false, false] rfl rfl (any_of HT_.out (by kernel_rfl)) (fun _ _ _ h => h) (Or.inl ⟨by rfl, ?_⟩) ?_ ?_
  rotate_left
  · exact zY
  rotate_left
  · exact zA
  refine pure_ (i := 4) (N := some 7) (v := ?_) (a' := ?_) #[true, false, false, false, true, false, false, false, false, false] rfl rfl (any_of HT_.out (by kernel_rfl)) (fun _ _ _ h => h) (Or.inl ⟨by rfl, ?_⟩) ?_ ?_
  rotate_left
  · exact zY
  rotate_left
  · exact zA
  refine take_ (i := 1) (N := some 4) (v := ?_) (a' := ?_) #[true, true, false, false, true, false, false, false, false, false] rfl rfl (take_ofW HT_.out HW_.out (by kernel_rfl)) (fun _ _ _ h => h) (Or.inl ⟨by rfl, ?_⟩) hHeld ?_ ?_
  rotate_left
  · rintro w' ⟨s0, s1, s2, s3, s4, s5⟩
    go_simp
    with_reducible rfl
  rotate_left
  · exact zA
  refine pure_ (i := 2) (N := some 5) (v := ?_) (a' := ?_) #[true, true, true, false, true, false, false, false, false, false] rfl rfl (any_of HT_.out (by kernel_rfl)) (fun _ _ _ h => h) (Or.inl ⟨by rfl, ?_⟩) ?_ ?_
  rotate_left
  · exact zY
  rotate_left
  · exact zA
  refine take_ (i := 5) (N := some 8) (v := ?_) (a' := ?_) #[true, true, true, false, true, true, false, false, false, false] rfl rfl (take_ofW HT_.out HW_.out (by kernel_rfl)) (fun _ _ _ h => h) (Or.inl ⟨by rfl, ?_⟩) hHeld ?_ ?_
  rotate_left
  · rintro w' ⟨s0, s1, s2, s3, s4, s5⟩
    go_simp
    with_reducible rfl
  rotate_left
  · exact zA
  refine pure_ (i := 6) (N := some 9) (v := ?_) (a' := ?_) #[true, true, true, false, true, true, true, false, false, false] rfl rfl (any_of HT_.out (by kernel_rfl)) (fun _ _ _ h => h) (Or.inl ⟨by rfl, ?_⟩) ?_ ?_
  rotate_left
  · exact zY
  rotate_left
  · exact zA
  refine one_ (i := 3) (N := some 6) #[true, true, true, true, true, true, true, false, false, false] rfl rfl (one_of HT_.out (by kernel_rfl)) (by decide) (fun K hK => ?_)
  refine goes_ Try.func35 (by kernel_rfl) rfl #[.int .i64 (l0_3.length : Int)] (by rfl) rfl rfl (by (try simp only [List.map_toArray, List.map_cons, List.map_nil]); first | done | rfl | (simp only [List.length_drop, List.length_take]; rfl)) ?_
  with_reducible refine (budwoodref12_pages.calls (l0_3.length : Int) t356 _ A2.out).mono ?_
  rintro e w7 ⟨rfl, hb⟩
  refine ⟨_, rfl, ?_⟩
  have n0_ := Aside0.mk (zL BK354 hb)
  have n1_ := Aside0.mk (zL BK355 hb)
  have n2_ := Aside0.mk (below_step zB hb)
  clear BK354
  clear BK355
  clear HB
  have BK354 := n0_
  have BK355 := n1_
  have HB := n2_
  clear n0_ n1_ n2_
  (try clear hb)
  (try clear hb2)
  (try clear hk)
  (try clear hi)
  refine hK.out _ _ ⟨(blk_cell BK354.out 0).trans rfl, (blk_cell BK354.out 1).trans rfl, (blk_cell BK354.out 2).trans rfl, (blk_cell BK354.out 3).trans rfl, (blk_cell BK354.out 4).trans rfl, (blk_cell BK354.out 5).trans rfl⟩ (fun hHeld => ?_)
  clear hK K
  refine norm_ (a' := ?_) ?_ ?_
  rotate_left
  · show Act.put _ (some 6) _ = _
    simp only [Act.put, List.setIfInBounds_toArray, List.set_cons_zero, List.set_cons_succ, i64_w, i32_w]
    rfl
  refine one_ (i := 7) (N := some 10) #[true, true, true, true, true, true, true, true, false, false] rfl rfl (one_of HT_.out (by kernel_rfl)) (by decide) (fun K hK => ?_)
  refine goes_ Try.func35 (by kernel_rfl) rfl #[.int .i64 (l0_4.length : Int)] (by rfl) rfl rfl (by (try simp only [List.map_toArray, List.map_cons, List.map_nil]); first | done | rfl | (simp only [List.length_drop, List.length_take]; rfl)) ?_
  with_reducible refine (budwoodref12_pages.calls (l0_4.length : Int) t357 _ A3.out).mono ?_
  rintro e w8 ⟨rfl, hb⟩
  refine ⟨_, rfl, ?_⟩
  have n0_ := Aside0.mk (zL BK354 hb)
  have n1_ := Aside0.mk (zL BK355 hb)
  have n2_ := Aside0.mk (below_step zB hb)
  clear BK354
  clear BK355
  clear HB
  have BK354 := n0_
  have BK355 := n1_
  have HB := n2_
  clear n0_ n1_ n2_
  (try clear hb)
  (try clear hb2)
  (try clear hk)
  (try clear hi)
  refine hK.out _ _ ⟨(blk_cell BK354.out 0).trans rfl, (blk_cell BK354.out 1).trans rfl, (blk_cell BK354.out 2).trans rfl, (blk_cell BK354.out 3).trans rfl, (blk_cell BK354.out 4).trans rfl, (blk_cell BK354.out 5).trans rfl⟩ (fun hHeld => ?_)
  clear hK K
  refine norm_ (a' := ?_) ?_ ?_
  rotate_left
  · show Act.put _ (some 10) _ = _
    simp only [Act.put, List.setIfInBounds_toArray, List.set_cons_zero, List.set_cons_succ, i64_w, i32_w]
    rfl
  refine pure_ (i := 8) (N := some 11) (v := ?_) (a' := ?_) #[true, true, true, true, true, true, true, true, true, false] rfl rfl (any_of HT_.out (by kernel_rfl)) (fun _ _ _ h => h) (Or.inl ⟨by rfl, ?_⟩) ?_ ?_
  rotate_left
  · exact zY
  rotate_left
  · exact zA
  refine one_ (i := 9) (N := none) #[true, true, true, true, true, true, true, true, true, true] rfl rfl (one_of HT_.out (by kernel_rfl)) (by decide) (fun K hK => ?_)
  obtain ⟨hs9, hs10⟩ := zc2 BK355
  obtain ⟨hfs9, hfs10⟩ := zf2 BK355
  have hns9_0 := NB354_355.out
  have hms9_0 := NB355_354.out
  refine skip_ (w1 := ?_) (by rfl) rfl ?_ ?_
  rotate_left
  · go_simp
    rfl
  refine hK.out _ _ ⟨(zh2 NB354_355.out hHeld.1), (zh2 NB354_355.out hHeld.2.1), (zh2 NB354_355.out hHeld.2.2.1), (zh2 NB354_355.out hHeld.2.2.2.1), (zh2 NB354_355.out hHeld.2.2.2.2.1), (zh2 NB354_355.out hHeld.2.2.2.2.2)⟩ (fun hHeld => ?_)
  clear hK K
  refine done_ (done_of HT_.out (by kernel_rfl)) ?_
  try go_wp2
  refine bodyPost_ret (results_cell_row rfl _ _ gb355 69 #[.int .i64 t356, .int .i64 t357] (0, 0) _ rfl zV Try.underlying69 rfl (by kernel_rfl)) rfl ?_
  exact ⟨zF, zB⟩

/-! ### budwoodref16_Image: function 11 -/
set_option maxHeartbeats 8000000 in
set_option maxRecDepth 100000 in
theorem budwoodref16_Image.calls (k : Nat) (a0_0 : ByteArray) (A0_1 : Option Addr) (c0_1 : Nat) (l0_1 : List ByteArray) (A0_2 : Option Addr) (c0_2 : Nat) (l0_2 : List ByteArray) (A0_3 : Option Addr) (c0_3 : Nat) (l0_3 : List Int) (A0_4 : Option Addr) (c0_4 : Nat) (l0_4 : List Int) (A0_5 : Option Addr) (c0_5 : Nat) (l0_5 : List (S53)) (a1_0 : Int) (a1_1 : Int) (A2 : Option Addr) (c2 : Nat) (l2 : List Int) (r1 : List Int) (r2 : Int) (w : World) (hr0_1 : Kd.C Kd.string w A0_1 l0_1.length l0_1) (hc0_1 : l0_1.length ≤ c0_1) (hr0_2 : Kd.C Kd.string w A0_2 l0_2.length l0_2) (hc0_2 : l0_2.length ≤ c0_2) (hr0_3 : Kd.C (Kd.int .u32) w A0_3 l0_3.length l0_3) (hc0_3 : l0_3.length ≤ c0_3) (hr0_4 : Kd.C (Kd.int .u32) w A0_4 l0_4.length l0_4) (hc0_4 : l0_4.length ≤ c0_4) (hr0_5 : Kd.C k53 w A0_5 l0_5.length l0_5) (hc0_5 : l0_5.length ≤ c0_5) (hr2 : Kd.C (Kd.int .u32) w A2 l2.length l2) (hc2 : l2.length ≤ c2) (h : budwoodref16_Image.f k a0_0 l0_1 l0_2 l0_3 l0_4 l0_5 a1_0 a1_1 l2 = some (r1, r2)) :
    Calls Try.prog 11 #[.agg #[.string a0_0, .slice A0_1 l0_1.length c0_1, .slice A0_2 l0_2.length c0_2, .slice A0_3 l0_3.length c0_3, .slice A0_4 l0_4.length c0_4, .slice A0_5 l0_5.length c0_5], .agg #[.int .u32 a1_0, .int .u32 a1_1], .slice A2 l2.length c2] w fun e w' => ∃ v0_ : Value, e = .returned (.tuple #[v0_, .int .i64 r2]) ∧ Kd.R (Kd.int .u32) 27 w' w.heap.size (fun _ => True) v0_ r1 ∧ Below w.heap.size w w' := by
  have hu26 := Try.underlying26
  have hu39 := Try.underlying39
  have HR0_1 := Aside0.mk hr0_1
  have HC0_1 := Aside0.mk hc0_1
  clear hr0_1 hc0_1
  have HR0_2 := Aside0.mk hr0_2
  have HC0_2 := Aside0.mk hc0_2
  clear hr0_2 hc0_2
  have HR0_3 := Aside0.mk hr0_3
  have HC0_3 := Aside0.mk hc0_3
  clear hr0_3 hc0_3
  have HR0_4 := Aside0.mk hr0_4
  have HC0_4 := Aside0.mk hc0_4
  clear hr0_4 hc0_4
  have HR0_5 := Aside0.mk hr0_5
  have HC0_5 := Aside0.mk hc0_5
  clear hr0_5 hc0_5
  have HR2 := Aside0.mk hr2
  have HC2 := Aside0.mk hc2
  clear hr2 hc2
  have HB := Aside0.mk (Below.refl w.heap.size w)
  have H : (if (l0_3.length : Int) > 512 then (budwoodref16_Image.j0 k l2 true a0_0 l0_1 l0_2 l0_3 l0_4 l0_5 a1_0 a1_1) else (if (l0_4.length : Int) > 128 then (budwoodref16_Image.j0 k l2 true a0_0 l0_1 l0_2 l0_3 l0_4 l0_5 a1_0 a1_1) else (budwoodref16_Image.j0 k l2 (decide ((l0_5.length : Int) > 256)) a0_0 l0_1 l0_2 l0_3 l0_4 l0_5 a1_0 a1_1))) = some (r1, r2) := h
  clear h
  have HC4 := Aside0.mk H
  clear H
  go_enter Try.func11, Try.ntmps11
  go_upto_region 1 with (first | ((with_reducible refine gate_dst (N := 3) rfl ?_); (try (refine gate_guard (by rfl) ?_; dsimp only)); refine zX (N := 3) (cs := #[.string a0_0, .slice A0_1 l0_1.length c0_1, .slice A0_2 l0_2.length c0_2, .slice A0_3 l0_3.length c0_3, .slice A0_4 l0_4.length c0_4, .slice A0_5 l0_5.length c0_5]) (t := 26) ?_ ?_; (focus first | (go_simp; done) | (go_simp; rfl)); intro gb358 hg w5 hbox hb; have BK358 := Aside0.mk (hbox); have GW358 := Aside0.mk (zS hg : w.heap.size ≤ gb358); have GE358 := Aside0.mk (zS hg : w.heap.size ≤ gb358); replace HB := Aside0.mk (below_step zB hb); clear hb hbox hg) | ((with_reducible refine gate_dst (N := 4) rfl ?_); (try (refine gate_guard (by rfl) ?_; dsimp only)); refine zX (N := 4) (cs := #[.int .u32 a1_0, .int .u32 a1_1]) (t := 39) ?_ ?_; (focus first | (go_simp; done) | (go_simp; rfl)); intro gb359 hg w6 hbox hb; have BK359 := Aside0.mk (hbox); have GW359 := Aside0.mk (zS hg : w.heap.size ≤ gb359); have GE359 := Aside0.mk (zS hg : w.heap.size ≤ gb359); have NB358_359 := Aside0.mk (zlt hg BK358 : gb358 ≠ gb359); have NB359_358 := Aside0.mk (zgt hg BK358 : gb359 ≠ gb358); replace BK358 := Aside0.mk (zL BK358 hb); replace HB := Aside0.mk (below_step zB hb); clear hb hbox hg))
  (try simp only [Act.put, List.setIfInBounds_toArray, List.set_cons_zero, List.set_cons_succ])
  go_cut [28] (fun v28 wc => ∃ (kq : Nat) (x28_3 : Bool), v28 = .bool x28_3 ∧ Aside0 (budwoodref16_Image.j0 kq l2 x28_3 a0_0 l0_1 l0_2 l0_3 l0_4 l0_5 a1_0 a1_1 = some (r1, r2)) ∧ Aside0 (kq ≤ k) ∧ Aside0 (wc.heap[gb358]? = some (.cells #[.string a0_0, (.slice A0_1 l0_1.length c0_1), (.slice A0_2 l0_2.length c0_2), (.slice A0_3 l0_3.length c0_3), (.slice A0_4 l0_4.length c0_4), (.slice A0_5 l0_5.length c0_5)] 26 (0, 0))) ∧ Aside0 (wc.heap[gb359]? = some (.cells #[.int .u32 a1_0, .int .u32 a1_1] 39 (0, 0))) ∧ Aside0 (Below w.heap.size w wc))
  case first =>
    have H := HC4.out
    clear HC4
    by_cases c7 : (l0_3.length : Int) > 512
    · rw [if_pos c7] at H
      have c7b0 : decide (512 < (l0_3.length : Int)) = true := decide_eq_true c7
      have c7b1 : decide (512 < l0_3.length) = true := decide_eq_true (by omega)
      clear c7
      (first | rw [c7b0] | (simp only [i64_w, i32_w]; rw [c7b0]) | skip)
      have H' := Aside0.mk H
      clear H
      have hnb8 := NB358_359.out
      have hnc8 := NB359_358.out
      obtain ⟨hcz9_0, hcz9_1, hcz9_2, hcz9_3, hcz9_4, hcz9_5⟩ := zc6 BK358
      obtain ⟨hfz9_0, hfz9_1, hfz9_2, hfz9_3, hfz9_4, hfz9_5⟩ := zf6 BK358
      go_wp2
      go_meet
      case rel => exact ⟨_, (true), (zE), H', ⟨by first | omega | exact Nat.le_refl _⟩, ⟨zK⟩, ⟨zK⟩, ⟨zB⟩⟩
    · rw [if_neg c7] at H
      have c7b0 : decide (512 < (l0_3.length : Int)) = false := decide_eq_false c7
      have c7b1 : decide (512 < l0_3.length) = false := decide_eq_false (by omega)
      clear c7
      (first | rw [c7b0] | (simp only [i64_w, i32_w]; rw [c7b0]) | skip)
      by_cases c10 : (l0_4.length : Int) > 128
      · rw [if_pos c10] at H
        have c10b0 : decide (128 < (l0_4.length : Int)) = true := decide_eq_true c10
        have c10b1 : decide (128 < l0_4.length) = true := decide_eq_true (by omega)
        clear c10
        have H' := Aside0.mk H
        clear H
        have hnb11 := NB358_359.out
        have hnc11 := NB359_358.out
        obtain ⟨hcz12_0, hcz12_1, hcz12_2, hcz12_3, hcz12_4, hcz12_5⟩ := zc6 BK358
        obtain ⟨hfz12_0, hfz12_1, hfz12_2, hfz12_3, hfz12_4, hfz12_5⟩ := zf6 BK358
        go_wp2
        go_meet
        case rel => exact ⟨_, (true), (zE), H', ⟨by first | omega | exact Nat.le_refl _⟩, ⟨zK⟩, ⟨zK⟩, ⟨zB⟩⟩
      · rw [if_neg c10] at H
        have c10b0 : decide (128 < (l0_4.length : Int)) = false := decide_eq_false c10
        have c10b1 : decide (128 < l0_4.length) = false := decide_eq_false (by omega)
        clear c10
        have H' := Aside0.mk H
        clear H
        have hnb13 := NB358_359.out
        have hnc13 := NB359_358.out
        obtain ⟨hcz14_0, hcz14_1, hcz14_2, hcz14_3, hcz14_4, hcz14_5⟩ := zc6 BK358
        obtain ⟨hfz14_0, hfz14_1, hfz14_2, hfz14_3, hfz14_4, hfz14_5⟩ := zf6 BK358
        go_wp2
        go_meet
        case rel => exact ⟨_, (decide ((l0_5.length : Int) > 256)), (zE), H', ⟨by first | omega | exact Nat.le_refl _⟩, ⟨zK⟩, ⟨zK⟩, ⟨zB⟩⟩
  case rest =>
    clear HC4
    try clear c1
    try clear c2
    try clear p2
    try clear c7
    try clear c7b0
    try clear c7b1
    try clear c8
    try clear c10
    try clear c10b0
    try clear c10b1
    try clear c11
    try clear c13
    try clear hcz12_0 hcz12_1 hcz12_2 hcz12_3 hcz12_4 hcz12_5
    try clear hcz14_0 hcz14_1 hcz14_2 hcz14_3 hcz14_4 hcz14_5
    try clear hcz9_0 hcz9_1 hcz9_2 hcz9_3 hcz9_4 hcz9_5
    try clear hfz12_0 hfz12_1 hfz12_2 hfz12_3 hfz12_4 hfz12_5
    try clear hfz14_0 hfz14_1 hfz14_2 hfz14_3 hfz14_4 hfz14_5
    try clear hfz9_0 hfz9_1 hfz9_2 hfz9_3 hfz9_4 hfz9_5
    obtain ⟨kq, x28_3, rfl, HA, HJ3, BK358, BK359, HB⟩ := hcut
    cases kq with
    | zero => exact absurd HA.out (by simp [budwoodref16_Image.j0])
    | succ kj3 =>
      have H := HA.out
      clear HA
      simp only [budwoodref16_Image.j0] at H
      by_cases c15 : x28_3 = true
      · subst c15
        replace H := zT H
        simp only [Option.some.injEq, Prod.mk.injEq] at H
        obtain ⟨rfl, rfl⟩ := H
        go_wp2
        go_ret2
        exact ⟨_, zF, by first | exact Kd.R_nil _ _ _ _ _ | exact Kd.N_nil _ _ _ _ _ | exact Kd.V_nil _ _ _ _ _ | exact Kd.Q_nil _ _ _ _ _ | exact Kd.S_nil _ _ _ _ _, zB⟩
      · replace c15 := Bool.eq_false_iff.mpr c15
        subst c15
        replace H := zU H
        replace H := Option.bind_eq_some_iff.mp H
        obtain ⟨⟨t360, t361⟩, A160, H⟩ := H
        replace H : ((budwoodref12_Words.f t360 t361).bind fun t362 => (budwoodref16_Image.l0 kj3 l2 ([] : List Int) t362 0 a0_0 l0_1 l0_2 l0_3 l0_4 l0_5 a1_0 a1_1)) = some (r1, r2) := H
        have A16 := Aside0.mk A160
        clear A160
        replace H := Option.bind_eq_some_iff.mp H
        obtain ⟨t362, A170, H⟩ := H
        replace H : (budwoodref16_Image.l0 kj3 l2 ([] : List Int) t362 0 a0_0 l0_1 l0_2 l0_3 l0_4 l0_5 a1_0 a1_1) = some (r1, r2) := H
        have A17 := Aside0.mk A170
        clear A170
        have H' := Aside0.mk H
        clear H
        have hnb18 := NB358_359.out
        have hnc18 := NB359_358.out
        obtain ⟨hcz19_0, hcz19_1, hcz19_2, hcz19_3, hcz19_4, hcz19_5⟩ := zc6 BK358
        obtain ⟨hfz19_0, hfz19_1, hfz19_2, hfz19_3, hfz19_4, hfz19_5⟩ := zf6 BK358
        go_wp2_with (first | ((with_reducible refine gate_callee (f := 29) rfl ?_); refine zG (some 30) Try.func29 #[.agg #[.string a0_0, .slice A0_1 l0_1.length c0_1, .slice A0_2 l0_2.length c0_2, .slice A0_3 l0_3.length c0_3, .slice A0_4 l0_4.length c0_4, .slice A0_5 l0_5.length c0_5]] ?_; (with_reducible refine (budwoodref12_Of.calls a0_0 _ _ l0_1 _ _ l0_2 _ _ l0_3 _ _ l0_4 _ _ l0_5 t360 t361 _ ?side1 ?side2 ?side3 ?side4 ?side5 ?side6 ?side7 ?side8 ?side9 ?side10 A16.out).mono ?_); (case side1 => exact zC); (case side2 => exact HC0_1.out); (case side3 => exact zC); (case side4 => exact HC0_2.out); (case side5 => exact zC); (case side6 => exact HC0_3.out); (case side7 => exact zC); (case side8 => exact HC0_4.out); (case side9 => exact zC); (case side10 => exact HC0_5.out); rintro e w20 ⟨rfl, hb⟩; refine ⟨_, rfl, ?_⟩; replace BK358 := Aside0.mk (zL BK358 hb); replace BK359 := Aside0.mk (zL BK359 hb); replace HB := Aside0.mk (below_step zB hb); (try clear hb); (try clear hb2); (try clear hk); (try clear hi)) | ((with_reducible refine gate_callee (f := 28) rfl ?_); refine zG (some 31) Try.func28 #[.agg #[.int .i64 t360, .int .i64 t361]] ?_; (with_reducible refine (budwoodref12_Words.calls t360 t361 t362 _ A17.out).mono ?_); rintro e w21 ⟨rfl, hb⟩; refine ⟨_, rfl, ?_⟩; replace BK358 := Aside0.mk (zL BK358 hb); replace BK359 := Aside0.mk (zL BK359 hb); replace HB := Aside0.mk (below_step zB hb); (try clear hb); (try clear hb2); (try clear hk); (try clear hi)))
        go_loopg [8, 10] kj3 (fun kq v8 v10 w' => ∃ (x8_2 : List Int) (x10_2 : Int), v10 = .int .i64 x10_2 ∧ Aside0 (budwoodref16_Image.l0 kq l2 x8_2 t362 x10_2 a0_0 l0_1 l0_2 l0_3 l0_4 l0_5 a1_0 a1_1 = some (r1, r2)) ∧ Aside0 (kq ≤ kj3) ∧ Aside0 (Kd.R (Kd.int .u32) 27 w' w.heap.size (fun _ => True) v8 x8_2) ∧ Aside0 (w'.heap[gb358]? = some (.cells #[.string a0_0, (.slice A0_1 l0_1.length c0_1), (.slice A0_2 l0_2.length c0_2), (.slice A0_3 l0_3.length c0_3), (.slice A0_4 l0_4.length c0_4), (.slice A0_5 l0_5.length c0_5)] 26 (0, 0))) ∧ Aside0 (w'.heap[gb359]? = some (.cells #[.int .u32 a1_0, .int .u32 a1_1] 39 (0, 0))) ∧ Aside0 (Below w.heap.size w w'))
        case atStart => exact ⟨(([] : List Int)), (0), (zE), H', ⟨Nat.le_refl _⟩, ⟨by first | exact Kd.R_nil _ _ _ _ _ | exact Kd.N_nil _ _ _ _ _ | exact Kd.V_nil _ _ _ _ _ | exact Kd.Q_nil _ _ _ _ _ | exact Kd.S_nil _ _ _ _ _⟩, ⟨zK⟩, ⟨zK⟩, ⟨zB⟩⟩
        case round =>
          clear H'
          try clear c1
          try clear c2
          try clear p2
          try clear c7
          try clear c7b0
          try clear c7b1
          try clear c8
          try clear c10
          try clear c10b0
          try clear c10b1
          try clear c11
          try clear c13
          try clear c15
          try clear c18
          try clear hcz12_0 hcz12_1 hcz12_2 hcz12_3 hcz12_4 hcz12_5
          try clear hcz14_0 hcz14_1 hcz14_2 hcz14_3 hcz14_4 hcz14_5
          try clear hcz19_0 hcz19_1 hcz19_2 hcz19_3 hcz19_4 hcz19_5
          try clear hcz9_0 hcz9_1 hcz9_2 hcz9_3 hcz9_4 hcz9_5
          try clear hfz12_0 hfz12_1 hfz12_2 hfz12_3 hfz12_4 hfz12_5
          try clear hfz14_0 hfz14_1 hfz14_2 hfz14_3 hfz14_4 hfz14_5
          try clear hfz19_0 hfz19_1 hfz19_2 hfz19_3 hfz19_4 hfz19_5
          try clear hfz9_0 hfz9_1 hfz9_2 hfz9_3 hfz9_4 hfz9_5
          try clear p2
          obtain ⟨x8_2, x10_2, rfl, HA, HK2, HO_8, BK358, BK359, HB⟩ := hrel
          cases gk with
          | zero => exact absurd HA.out (by simp [budwoodref16_Image.l0])
          | succ k2 =>
            have H := HA.out
            clear HA
            simp only [budwoodref16_Image.l0] at H
            by_cases c22 : x10_2 < t362
            · rw [if_pos c22] at H
              have c22b0 : decide (x10_2 < t362) = true := decide_eq_true c22
              clear c22
              replace H := Option.bind_eq_some_iff.mp H
              obtain ⟨⟨t363, t364⟩, A230, H⟩ := H
              replace H : (if t364 = 0 then (if x8_2.length < 35184372088832 then (budwoodref16_Image.l0 k2 l2 (x8_2 ++ [t363]) t362 (wrap64 (x10_2 + 1)) a0_0 l0_1 l0_2 l0_3 l0_4 l0_5 a1_0 a1_1) else (none)) else (some (([] : List Int), t364))) = some (r1, r2) := H
              have A23 := Aside0.mk A230
              clear A230
              by_cases c24 : t364 = 0
              · rw [if_pos c24] at H
                have c24b0 : (t364 == 0) = true := beq_iff_eq.mpr c24
                have c24b1 : (t364 != 0) = false := bne_eq_false_iff_eq.mpr c24
                clear c24
                by_cases c25 : x8_2.length < 35184372088832
                · rw [if_pos c25] at H
                  have LMc25 := Aside0.mk c25
                  clear c25
                  obtain ⟨y365, hy365⟩ : ∃ y_ : List Int, y_ = (x8_2 ++ [t363]) := ⟨_, rfl⟩
                  replace H : (budwoodref16_Image.l0 k2 l2 y365 t362 (wrap64 (x10_2 + 1)) a0_0 l0_1 l0_2 l0_3 l0_4 l0_5 a1_0 a1_1) = some (r1, r2) := by first | (rw [hy365]; with_reducible exact H) | (have H2_ := (Option.bind_some _ _).symm.trans H; rw [hy365]; with_reducible exact H2_) | (have H2_ := (Option.bind_some _ _).symm.trans H; with_reducible exact H2_) | with_reducible exact H | (rw [hy365]; exact H) | exact H
                  have Ny365 := Aside0.mk hy365
                  clear hy365
                  have H' := Aside0.mk H
                  clear H
                  have hnb26 := NB358_359.out
                  have hnc26 := NB359_358.out
                  obtain ⟨hcz27_0, hcz27_1, hcz27_2, hcz27_3, hcz27_4, hcz27_5⟩ := zc6 BK358
                  obtain ⟨hfz27_0, hfz27_1, hfz27_2, hfz27_3, hfz27_4, hfz27_5⟩ := zf6 BK358
                  obtain ⟨hcz28_0, hcz28_1⟩ := zc2 BK359
                  obtain ⟨hfz28_0, hfz28_1⟩ := zf2 BK359
                  go_wp2_with (first | ((with_reducible refine gate_callee (f := 8) rfl ?_); refine zG (some 42) Try.func8 #[.agg #[.string a0_0, .slice A0_1 l0_1.length c0_1, .slice A0_2 l0_2.length c0_2, .slice A0_3 l0_3.length c0_3, .slice A0_4 l0_4.length c0_4, .slice A0_5 l0_5.length c0_5], .agg #[.int .u32 a1_0, .int .u32 a1_1], .slice A2 l2.length c2, .int .i64 x10_2] ?_; (with_reducible refine (budwoodref16_Word.calls k2 a0_0 _ _ l0_1 _ _ l0_2 _ _ l0_3 _ _ l0_4 _ _ l0_5 a1_0 a1_1 _ _ l2 x10_2 t363 t364 _ ?side1 ?side2 ?side3 ?side4 ?side5 ?side6 ?side7 ?side8 ?side9 ?side10 ?side11 ?side12 A23.out).mono ?_); (case side1 => exact zC); (case side2 => exact HC0_1.out); (case side3 => exact zC); (case side4 => exact HC0_2.out); (case side5 => exact zC); (case side6 => exact HC0_3.out); (case side7 => exact zC); (case side8 => exact HC0_4.out); (case side9 => exact zC); (case side10 => exact HC0_5.out); (case side11 => exact zC); (case side12 => exact HC2.out); rintro e w29 ⟨rfl, hb⟩; refine ⟨_, rfl, ?_⟩; replace HO_8 := Aside0.mk (Kd.R_below (zR HO_8) hb); replace BK358 := Aside0.mk (zL BK358 hb); replace BK359 := Aside0.mk (zL BK359 hb); replace HB := Aside0.mk (below_step zB hb); (try clear hb); (try clear hb2); (try clear hk); (try clear hi)) | ((with_reducible refine gate_builtin (b := .append) (xs := #[.tmp 48, .tmp 50]) rfl ?_); (try (refine gate_guard (by rfl) ?_; dsimp only)); at_builtin; refine Kd.R_append (Kd.int .u32) (w0 := w) w.heap.size rfl (.tmp 48) (.tmp 50) 23 27 (.int .u32 0) 4 rfl Try.underlying23 info27 rfl (by decide) (by omega) u8 x8_2 t363 [.int .u32 t363] (fun _ => True) (fun _ => False) rfl rfl ?aP (fun _ hk => hk.elim) ?aF ?aO ?aB ?aS ?aL ?_; (case aP => exact rfl); (case aB => exact zB); (case aF => exact (fun _ _ => trivial)); (case aO => exact (zR HO_8)); (case aS => exact (below_size zB)); (case aL => have := LMc25.out; omega); intro v366 w30 ho hb hg hat; rw [← Ny365.out] at ho; have HO367 := Aside0.mk (ho); replace BK358 := Aside0.mk (blk_grown (g := gb358) (o := .cells #[.string a0_0, .slice A0_1 l0_1.length c0_1, .slice A0_2 l0_2.length c0_2, .slice A0_3 l0_3.length c0_3, .slice A0_4 l0_4.length c0_4, .slice A0_5 l0_5.length c0_5] 26 (0, 0)) zK hg (Kd.R_ne HO_8.out BK358.out (by decide))); replace BK359 := Aside0.mk (blk_grown (g := gb359) (o := .cells #[.int .u32 a1_0, .int .u32 a1_1] 39 (0, 0)) zK hg (Kd.R_ne HO_8.out BK359.out (by decide))); replace HB := Aside0.mk (hb); clear HO_8; clear ho hb hg hat))
                  go_roundg k2
                  case measure => have := HJ3.out; have := HK2.out; omega
                  case rel => exact ⟨(y365), (wrap64 (x10_2 + 1)), (zE), H', ⟨by have := HJ3.out; have := HK2.out; omega⟩, ⟨zR HO367⟩, ⟨zK⟩, ⟨zK⟩, ⟨zB⟩⟩
                · rw [if_neg c25] at H
                  exact absurd H (by simp)
              · rw [if_neg c24] at H
                have c24b0 : (t364 == 0) = false := beq_eq_false_iff_ne.mpr c24
                have c24b1 : (t364 != 0) = true := bne_iff_ne.mpr c24
                simp only [Option.some.injEq, Prod.mk.injEq] at H
                obtain ⟨rfl, rfl⟩ := H
                have hnb31 := NB358_359.out
                have hnc31 := NB359_358.out
                obtain ⟨hcz32_0, hcz32_1, hcz32_2, hcz32_3, hcz32_4, hcz32_5⟩ := zc6 BK358
                obtain ⟨hfz32_0, hfz32_1, hfz32_2, hfz32_3, hfz32_4, hfz32_5⟩ := zf6 BK358
                obtain ⟨hcz33_0, hcz33_1⟩ := zc2 BK359
                obtain ⟨hfz33_0, hfz33_1⟩ := zf2 BK359
                go_wp2_with (first | ((with_reducible refine gate_callee (f := 8) rfl ?_); refine zG (some 42) Try.func8 #[.agg #[.string a0_0, .slice A0_1 l0_1.length c0_1, .slice A0_2 l0_2.length c0_2, .slice A0_3 l0_3.length c0_3, .slice A0_4 l0_4.length c0_4, .slice A0_5 l0_5.length c0_5], .agg #[.int .u32 a1_0, .int .u32 a1_1], .slice A2 l2.length c2, .int .i64 x10_2] ?_; (with_reducible refine (budwoodref16_Word.calls k2 a0_0 _ _ l0_1 _ _ l0_2 _ _ l0_3 _ _ l0_4 _ _ l0_5 a1_0 a1_1 _ _ l2 x10_2 t363 t364 _ ?side1 ?side2 ?side3 ?side4 ?side5 ?side6 ?side7 ?side8 ?side9 ?side10 ?side11 ?side12 A23.out).mono ?_); (case side1 => exact zC); (case side2 => exact HC0_1.out); (case side3 => exact zC); (case side4 => exact HC0_2.out); (case side5 => exact zC); (case side6 => exact HC0_3.out); (case side7 => exact zC); (case side8 => exact HC0_4.out); (case side9 => exact zC); (case side10 => exact HC0_5.out); (case side11 => exact zC); (case side12 => exact HC2.out); rintro e w34 ⟨rfl, hb⟩; refine ⟨_, rfl, ?_⟩; replace HO_8 := Aside0.mk (Kd.R_below (zR HO_8) hb); replace BK358 := Aside0.mk (zL BK358 hb); replace BK359 := Aside0.mk (zL BK359 hb); replace HB := Aside0.mk (below_step zB hb); (try clear hb); (try clear hb2); (try clear hk); (try clear hi)))
                go_ret2
                exact ⟨_, zF, by first | exact Kd.R_nil _ _ _ _ _ | exact Kd.N_nil _ _ _ _ _ | exact Kd.V_nil _ _ _ _ _ | exact Kd.Q_nil _ _ _ _ _ | exact Kd.S_nil _ _ _ _ _, zB⟩
            · rw [if_neg c22] at H
              have c22b0 : decide (x10_2 < t362) = false := decide_eq_false c22
              clear c22
              simp only [Option.some.injEq, Prod.mk.injEq] at H
              obtain ⟨rfl, rfl⟩ := H
              go_wp2
              go_ret2
              exact ⟨_, zF, by (with_reducible repeat (first | apply Kd.R_alloc | apply Kd.R_drewN | apply Kd.R_drew)); exact HO_8.out, zB⟩

/-! ### budwoodref10_SameWords: function 12 -/
set_option maxHeartbeats 8000000 in
set_option maxRecDepth 100000 in
theorem budwoodref10_SameWords.calls (k : Nat) (A0 : Option Addr) (c0 : Nat) (l0 : List Int) (A1 : Option Addr) (c1 : Nat) (l1 : List Int) (r : Bool) (w : World) (hr0 : Kd.C (Kd.int .u32) w A0 l0.length l0) (hc0 : l0.length ≤ c0) (hr1 : Kd.C (Kd.int .u32) w A1 l1.length l1) (hc1 : l1.length ≤ c1) (h : budwoodref10_SameWords.f k l0 l1 = some r) :
    Calls Try.prog 12 #[.slice A0 l0.length c0, .slice A1 l1.length c1] w fun e w' => e = .returned (.bool r) ∧ Drawn0 w w' := by
  have HR0 := Aside0.mk hr0
  have HC0 := Aside0.mk hc0
  clear hr0 hc0
  have HR1 := Aside0.mk hr1
  have HC1 := Aside0.mk hc1
  clear hr1 hc1
  have H : (if (l0.length : Int) = (l1.length : Int) then (budwoodref10_SameWords.l0 k l0 l1 0) else (some false)) = some r := h
  clear h
  by_cases c3 : (l0.length : Int) = (l1.length : Int)
  · rw [if_pos c3] at H
    have c3b0 : ((l0.length : Int) == (l1.length : Int)) = true := beq_iff_eq.mpr c3
    have c3b1 : ((l0.length : Int) != (l1.length : Int)) = false := bne_eq_false_iff_eq.mpr c3
    have c3b2 : (l0.length == l1.length) = true := by first | simpa using c3 | (simp at c3 ⊢; omega)
    clear c3
    have H' := Aside0.mk H
    clear H
    go_enter Try.func12, Try.ntmps12
    go_wp2
    repeat (go_quiet (fail); try go_wp2)
    go_loopg [5] k (fun kq v5 w' => ∃ (x5_1 : Int), v5 = .int .i64 x5_1 ∧ Aside0 (budwoodref10_SameWords.l0 kq l0 l1 x5_1 = some r) ∧ Aside0 (kq ≤ k) ∧ Drawn0 w w')
    case atStart => exact ⟨(0), (zE), H', ⟨Nat.le_refl _⟩, zD⟩
    case round =>
      clear H'
      try clear c1
      try clear p2
      try clear c3
      try clear c3b0
      try clear c3b1
      try clear c3b2
      obtain ⟨x5_1, rfl, HA, HK1, ⟨m1, rfl⟩⟩ := hrel
      cases gk with
      | zero => exact absurd HA.out (by simp [budwoodref10_SameWords.l0])
      | succ k1 =>
        have H := HA.out
        clear HA
        simp only [budwoodref10_SameWords.l0] at H
        by_cases c4 : x5_1 < (l0.length : Int)
        · rw [if_pos c4] at H
          have c4b0 : decide (x5_1 < (l0.length : Int)) = true := decide_eq_true c4
          clear c4
          by_cases c5 : 0 ≤ x5_1
          · rw [if_pos c5] at H
            have c5b0 : decide (0 ≤ x5_1) = true := decide_eq_true c5
            clear c5
            by_cases c6 : x5_1 < (l1.length : Int)
            · rw [if_pos c6] at H
              have c6b0 : decide (x5_1 < (l1.length : Int)) = true := decide_eq_true c6
              clear c6
              by_cases c7 : (rd l0 x5_1) = (rd l1 x5_1)
              · rw [if_pos c7] at H
                have c7b0 : ((rd l0 x5_1) == (rd l1 x5_1)) = true := beq_iff_eq.mpr c7
                have c7b1 : ((rd l0 x5_1) != (rd l1 x5_1)) = false := bne_eq_false_iff_eq.mpr c7
                clear c7
                have H' := Aside0.mk H
                clear H
                have p368 : 0 ≤ (x5_1 : Int) := of_decide_eq_true (by first | (with_reducible assumption) | assumption)
                have q368 : x5_1 < (l0.length : Int) := of_decide_eq_true (by first | (with_reducible assumption) | assumption)
                obtain ⟨ad368, e368, hx368_0⟩ := Kd.at_int HR0.out x5_1 p368 q368
                cases e368
                replace p368 := eq_true p368
                replace q368 := eq_true q368
                have p369 : 0 ≤ (x5_1 : Int) := of_decide_eq_true (by first | (with_reducible assumption) | assumption)
                have q369 : x5_1 < (l1.length : Int) := of_decide_eq_true (by first | (with_reducible assumption) | assumption)
                obtain ⟨ad369, e369, hx369_0⟩ := Kd.at_int HR1.out x5_1 p369 q369
                cases e369
                replace p369 := eq_true p369
                replace q369 := eq_true q369
                go_wp2
                repeat (go_quiet (fail); try go_wp2)
                go_roundg k1
                case measure => have := HK1.out; omega
                case rel => exact ⟨(wrap64 (x5_1 + 1)), (zE), H', ⟨by have := HK1.out; omega⟩, zD⟩
              · rw [if_neg c7] at H
                have c7b0 : ((rd l0 x5_1) == (rd l1 x5_1)) = false := beq_eq_false_iff_ne.mpr c7
                have c7b1 : ((rd l0 x5_1) != (rd l1 x5_1)) = true := bne_iff_ne.mpr c7
                obtain rfl := Option.some.inj H
                have p368 : 0 ≤ (x5_1 : Int) := of_decide_eq_true (by first | (with_reducible assumption) | assumption)
                have q368 : x5_1 < (l0.length : Int) := of_decide_eq_true (by first | (with_reducible assumption) | assumption)
                obtain ⟨ad368, e368, hx368_0⟩ := Kd.at_int HR0.out x5_1 p368 q368
                cases e368
                replace p368 := eq_true p368
                replace q368 := eq_true q368
                have p369 : 0 ≤ (x5_1 : Int) := of_decide_eq_true (by first | (with_reducible assumption) | assumption)
                have q369 : x5_1 < (l1.length : Int) := of_decide_eq_true (by first | (with_reducible assumption) | assumption)
                obtain ⟨ad369, e369, hx369_0⟩ := Kd.at_int HR1.out x5_1 p369 q369
                cases e369
                replace p369 := eq_true p369
                replace q369 := eq_true q369
                go_wp2
                repeat (go_quiet (fail); try go_wp2)
                go_ret
                exact ⟨zE, zD⟩
            · rw [if_neg c6] at H
              exact absurd H (by simp)
          · rw [if_neg c5] at H
            exact absurd H (by simp)
        · rw [if_neg c4] at H
          have c4b0 : decide (x5_1 < (l0.length : Int)) = false := decide_eq_false c4
          clear c4
          obtain rfl := Option.some.inj H
          go_wp2
          repeat (go_quiet (fail); try go_wp2)
          go_ret
          exact ⟨zE, zD⟩
  · rw [if_neg c3] at H
    have c3b0 : ((l0.length : Int) == (l1.length : Int)) = false := beq_eq_false_iff_ne.mpr c3
    have c3b1 : ((l0.length : Int) != (l1.length : Int)) = true := bne_iff_ne.mpr c3
    have c3b2 : (l0.length == l1.length) = false := by first | simpa using c3 | (simp at c3 ⊢; omega)
    obtain rfl := Option.some.inj H
    go_enter Try.func12, Try.ntmps12
    go_wp2
    repeat (go_quiet (fail); try go_wp2)
    go_ret
    exact ⟨zE, zD⟩

/-! ### budwoodref10_SameTexts: function 30 -/
set_option maxHeartbeats 8000000 in
set_option maxRecDepth 100000 in
theorem budwoodref10_SameTexts.calls (k : Nat) (A0 : Option Addr) (c0 : Nat) (l0 : List ByteArray) (A1 : Option Addr) (c1 : Nat) (l1 : List ByteArray) (r : Bool) (w : World) (hr0 : Kd.C Kd.string w A0 l0.length l0) (hc0 : l0.length ≤ c0) (hr1 : Kd.C Kd.string w A1 l1.length l1) (hc1 : l1.length ≤ c1) (h : budwoodref10_SameTexts.f k l0 l1 = some r) :
    Calls Try.prog 30 #[.slice A0 l0.length c0, .slice A1 l1.length c1] w fun e w' => e = .returned (.bool r) ∧ Drawn0 w w' := by
  have HR0 := Aside0.mk hr0
  have HC0 := Aside0.mk hc0
  clear hr0 hc0
  have HR1 := Aside0.mk hr1
  have HC1 := Aside0.mk hc1
  clear hr1 hc1
  have H : (if (l0.length : Int) = (l1.length : Int) then (budwoodref10_SameTexts.l0 k l0 l1 0) else (some false)) = some r := h
  clear h
  by_cases c3 : (l0.length : Int) = (l1.length : Int)
  · rw [if_pos c3] at H
    have c3b0 : ((l0.length : Int) == (l1.length : Int)) = true := beq_iff_eq.mpr c3
    have c3b1 : ((l0.length : Int) != (l1.length : Int)) = false := bne_eq_false_iff_eq.mpr c3
    have c3b2 : (l0.length == l1.length) = true := by first | simpa using c3 | (simp at c3 ⊢; omega)
    clear c3
    have H' := Aside0.mk H
    clear H
    go_enter Try.func30, Try.ntmps30
    go_wp2
    repeat (go_quiet (fail); try go_wp2)
    go_loopg [5] k (fun kq v5 w' => ∃ (x5_1 : Int), v5 = .int .i64 x5_1 ∧ Aside0 (budwoodref10_SameTexts.l0 kq l0 l1 x5_1 = some r) ∧ Aside0 (kq ≤ k) ∧ Drawn0 w w')
    case atStart => exact ⟨(0), (zE), H', ⟨Nat.le_refl _⟩, zD⟩
    case round =>
      clear H'
      try clear c1
      try clear p2
      try clear c3
      try clear c3b0
      try clear c3b1
      try clear c3b2
      obtain ⟨x5_1, rfl, HA, HK1, ⟨m1, rfl⟩⟩ := hrel
      cases gk with
      | zero => exact absurd HA.out (by simp [budwoodref10_SameTexts.l0])
      | succ k1 =>
        have H := HA.out
        clear HA
        simp only [budwoodref10_SameTexts.l0] at H
        by_cases c4 : x5_1 < (l0.length : Int)
        · rw [if_pos c4] at H
          have c4b0 : decide (x5_1 < (l0.length : Int)) = true := decide_eq_true c4
          clear c4
          by_cases c5 : 0 ≤ x5_1
          · rw [if_pos c5] at H
            have c5b0 : decide (0 ≤ x5_1) = true := decide_eq_true c5
            clear c5
            by_cases c6 : x5_1 < (l1.length : Int)
            · rw [if_pos c6] at H
              have c6b0 : decide (x5_1 < (l1.length : Int)) = true := decide_eq_true c6
              clear c6
              by_cases c7 : (rdOf ByteArray.empty l0 x5_1).toList = (rdOf ByteArray.empty l1 x5_1).toList
              · rw [if_pos c7] at H
                have c7b0 : ((rdOf ByteArray.empty l0 x5_1).toList == (rdOf ByteArray.empty l1 x5_1).toList) = true := beq_iff_eq.mpr c7
                have c7b1 : ((rdOf ByteArray.empty l0 x5_1).toList != (rdOf ByteArray.empty l1 x5_1).toList) = false := bne_eq_false_iff_eq.mpr c7
                clear c7
                have H' := Aside0.mk H
                clear H
                have p370 : 0 ≤ (x5_1 : Int) := of_decide_eq_true (by first | (with_reducible assumption) | assumption)
                have q370 : x5_1 < (l0.length : Int) := of_decide_eq_true (by first | (with_reducible assumption) | assumption)
                obtain ⟨ad370, e370, hx370_0⟩ := Kd.at_string HR0.out x5_1 p370 q370
                cases e370
                replace p370 := eq_true p370
                replace q370 := eq_true q370
                have p371 : 0 ≤ (x5_1 : Int) := of_decide_eq_true (by first | (with_reducible assumption) | assumption)
                have q371 : x5_1 < (l1.length : Int) := of_decide_eq_true (by first | (with_reducible assumption) | assumption)
                obtain ⟨ad371, e371, hx371_0⟩ := Kd.at_string HR1.out x5_1 p371 q371
                cases e371
                replace p371 := eq_true p371
                replace q371 := eq_true q371
                go_wp2
                repeat (go_quiet (fail); try go_wp2)
                go_roundg k1
                case measure => have := HK1.out; omega
                case rel => exact ⟨(wrap64 (x5_1 + 1)), (zE), H', ⟨by have := HK1.out; omega⟩, zD⟩
              · rw [if_neg c7] at H
                have c7b0 : ((rdOf ByteArray.empty l0 x5_1).toList == (rdOf ByteArray.empty l1 x5_1).toList) = false := beq_eq_false_iff_ne.mpr c7
                have c7b1 : ((rdOf ByteArray.empty l0 x5_1).toList != (rdOf ByteArray.empty l1 x5_1).toList) = true := bne_iff_ne.mpr c7
                obtain rfl := Option.some.inj H
                have p370 : 0 ≤ (x5_1 : Int) := of_decide_eq_true (by first | (with_reducible assumption) | assumption)
                have q370 : x5_1 < (l0.length : Int) := of_decide_eq_true (by first | (with_reducible assumption) | assumption)
                obtain ⟨ad370, e370, hx370_0⟩ := Kd.at_string HR0.out x5_1 p370 q370
                cases e370
                replace p370 := eq_true p370
                replace q370 := eq_true q370
                have p371 : 0 ≤ (x5_1 : Int) := of_decide_eq_true (by first | (with_reducible assumption) | assumption)
                have q371 : x5_1 < (l1.length : Int) := of_decide_eq_true (by first | (with_reducible assumption) | assumption)
                obtain ⟨ad371, e371, hx371_0⟩ := Kd.at_string HR1.out x5_1 p371 q371
                cases e371
                replace p371 := eq_true p371
                replace q371 := eq_true q371
                go_wp2
                repeat (go_quiet (fail); try go_wp2)
                go_ret
                exact ⟨zE, zD⟩
            · rw [if_neg c6] at H
              exact absurd H (by simp)
          · rw [if_neg c5] at H
            exact absurd H (by simp)
        · rw [if_neg c4] at H
          have c4b0 : decide (x5_1 < (l0.length : Int)) = false := decide_eq_false c4
          clear c4
          obtain rfl := Option.some.inj H
          go_wp2
          repeat (go_quiet (fail); try go_wp2)
          go_ret
          exact ⟨zE, zD⟩
  · rw [if_neg c3] at H
    have c3b0 : ((l0.length : Int) == (l1.length : Int)) = false := beq_eq_false_iff_ne.mpr c3
    have c3b1 : ((l0.length : Int) != (l1.length : Int)) = true := bne_iff_ne.mpr c3
    have c3b2 : (l0.length == l1.length) = false := by first | simpa using c3 | (simp at c3 ⊢; omega)
    obtain rfl := Option.some.inj H
    go_enter Try.func30, Try.ntmps30
    go_wp2
    repeat (go_quiet (fail); try go_wp2)
    go_ret
    exact ⟨zE, zD⟩

end Go.Proofs.Ytllkloneapjgjaa.P
