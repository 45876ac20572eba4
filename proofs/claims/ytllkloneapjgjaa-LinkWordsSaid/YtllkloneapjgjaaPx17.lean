-- WRITTEN BY bud.py (a program of this session's over the kit's print). Not trusted: Lean checks it.
import Derived.Test.YtllkloneapjgjaaPx0
import Derived.Test.YtllkloneapjgjaaPxf
import Derived.Test.YtllkloneapjgjaaPx13
import Derived.Test.YtllkloneapjgjaaPx15
import Derived.Test.YtllkloneapjgjaaPx16
namespace Go.Proofs.Ytllkloneapjgjaa.P
open Go.RowKit Go.Proofs.YtllkloneapjgjaaW.PrintWords Go.Proofs.YtllkloneapjgjaaW.PrintLast Go.Proofs.YtllkloneapjgjaaW.PrintMore
attribute [local go_sem] max2_int min2_int max_two min_two max_three min_three max_four min_four   -- for this text's walks alone
set_option linter.unusedVariables false
set_option linter.unusedSimpArgs false

/-! ### budwoodref15_Apply: function 25 -/
set_option maxHeartbeats 8000000 in
set_option maxRecDepth 100000 in
theorem budwoodref15_Apply.calls (k : Nat) (a0 : Int) (a1 : Int) (a2 : Int) (r1 : Int) (r2 : Int) (w : World) (h : budwoodref15_Apply.f k a0 a1 a2 = some (r1, r2)) :
    Calls Try.prog 25 #[.int .u32 a0, .int .u8 a1, .int .u32 a2] w fun e w' => e = .returned (.tuple #[.int .u32 r1, .int .i64 r2]) ∧ Below w.heap.size w w' := by
  have hu75 := Try.underlying75
  have HB := Aside0.mk (Below.refl w.heap.size w)
  have H : (if a1 > 7 then (some (0, 2)) else ((budwoodref11_InCode.f a1).bind fun t285 => (if t285 = true then ((budwoodref04_Decode.f k a0).bind fun bt286 => (if bt286.2.2.2.2.2 = 0 then ((budwoodref15_op.f a1).bind fun t293 => (if bt286.1 = t293 then (budwoodref15_Apply.j0 k a1 a2 (bt286.2.2.2.2.1 != 0) bt286.1 bt286.2.1 bt286.2.2.1 bt286.2.2.2.1 bt286.2.2.2.2.1) else (budwoodref15_Apply.j0 k a1 a2 true bt286.1 bt286.2.1 bt286.2.2.1 bt286.2.2.2.1 bt286.2.2.2.2.1))) else (budwoodref15_Apply.j0 k a1 a2 true bt286.1 bt286.2.1 bt286.2.2.1 bt286.2.2.2.1 bt286.2.2.2.2.1))) else (some (a2, 0))))) = some (r1, r2) := h
  clear h
  by_cases c4 : a1 > 7
  · rw [if_pos c4] at H
    have c4b0 : decide (7 < a1) = true := decide_eq_true c4
    clear c4
    simp only [Option.some.injEq, Prod.mk.injEq] at H
    obtain ⟨rfl, rfl⟩ := H
    go_enter Try.func25, Try.ntmps25
    go_wp2
    repeat (go_quiet (fail); try go_wp2)
    go_ret2
    exact ⟨zF, zB⟩
  · rw [if_neg c4] at H
    have c4b0 : decide (7 < a1) = false := decide_eq_false c4
    clear c4
    replace H := Option.bind_eq_some_iff.mp H
    obtain ⟨t285, A50, H⟩ := H
    replace H : (if t285 = true then ((budwoodref04_Decode.f k a0).bind fun bt286 => (if bt286.2.2.2.2.2 = 0 then ((budwoodref15_op.f a1).bind fun t293 => (if bt286.1 = t293 then (budwoodref15_Apply.j0 k a1 a2 (bt286.2.2.2.2.1 != 0) bt286.1 bt286.2.1 bt286.2.2.1 bt286.2.2.2.1 bt286.2.2.2.2.1) else (budwoodref15_Apply.j0 k a1 a2 true bt286.1 bt286.2.1 bt286.2.2.1 bt286.2.2.2.1 bt286.2.2.2.2.1))) else (budwoodref15_Apply.j0 k a1 a2 true bt286.1 bt286.2.1 bt286.2.2.1 bt286.2.2.2.1 bt286.2.2.2.2.1))) else (some (a2, 0))) = some (r1, r2) := H
    have A5 := Aside0.mk A50
    clear A50
    by_cases c6 : t285 = true
    · subst c6
      replace H := zT H
      replace H := Option.bind_eq_some_iff.mp H
      obtain ⟨⟨t286, t287, t288, t289, t290, t291⟩, A70, H⟩ := H
      replace H : (if t291 = 0 then ((budwoodref15_op.f a1).bind fun t293 => (if t286 = t293 then (budwoodref15_Apply.j0 k a1 a2 (t290 != 0) t286 t287 t288 t289 t290) else (budwoodref15_Apply.j0 k a1 a2 true t286 t287 t288 t289 t290))) else (budwoodref15_Apply.j0 k a1 a2 true t286 t287 t288 t289 t290)) = some (r1, r2) := H
      have A7 := Aside0.mk A70
      clear A70
      have HC8 := Aside0.mk H
      clear H
      go_enter Try.func25, Try.ntmps25
      go_upto_region 6 with (first | (go_at_call 23; (with_reducible refine (budwoodref11_InCode.calls a1 true _ A5.out).mono ?_); rintro e w' ⟨rfl, ⟨nd, rfl⟩⟩; (try exact zQ)) | (go_at_call 37; (with_reducible refine (budwoodref04_Decode.calls k a0 t286 t287 t288 t289 t290 t291 _ A7.out).mono ?_); rintro e w9 ⟨rfl, hb⟩; replace HB := Aside0.mk (below_step zB hb); (try clear hb); (try clear hb2); (try clear hk); (try clear hi)) | ((with_reducible refine gate_dst (N := 8) rfl ?_); refine zX (N := 8) (cs := #[.int .u8 0, .int .u8 0, .int .u8 0, .int .u8 0, .int .i32 0]) (t := 75) ?_ ?_; (focus first | (go_simp; done) | (go_simp; rfl)); intro gb292 hg w10 hbox hb; have BK292 := Aside0.mk (hbox); have GW292 := Aside0.mk (zS hg : w.heap.size ≤ gb292); have GE292 := Aside0.mk (zS hg : w.heap.size ≤ gb292); replace HB := Aside0.mk (below_step zB hb); clear hb hbox hg; obtain ⟨hcz11_0, hcz11_1, hcz11_2, hcz11_3, hcz11_4⟩ := zc5 BK292; obtain ⟨hfz11_0, hfz11_1, hfz11_2, hfz11_3, hfz11_4⟩ := zf5 BK292))
      repeat (go_quiet (first | (go_at_call 23; (with_reducible refine (budwoodref11_InCode.calls a1 true _ A5.out).mono ?_); rintro e w' ⟨rfl, ⟨nd, rfl⟩⟩; (try exact zQ)) | (go_at_call 37; (with_reducible refine (budwoodref04_Decode.calls k a0 t286 t287 t288 t289 t290 t291 _ A7.out).mono ?_); rintro e w9 ⟨rfl, hb⟩; replace HB := Aside0.mk (below_step zB hb); (try clear hb); (try clear hb2); (try clear hk); (try clear hi)) | ((with_reducible refine gate_dst (N := 8) rfl ?_); refine zX (N := 8) (cs := #[.int .u8 0, .int .u8 0, .int .u8 0, .int .u8 0, .int .i32 0]) (t := 75) ?_ ?_; (focus first | (go_simp; done) | (go_simp; rfl)); intro gb292 hg w10 hbox hb; have BK292 := Aside0.mk (hbox); have GW292 := Aside0.mk (zS hg : w.heap.size ≤ gb292); have GE292 := Aside0.mk (zS hg : w.heap.size ≤ gb292); replace HB := Aside0.mk (below_step zB hb); clear hb hbox hg; obtain ⟨hcz11_0, hcz11_1, hcz11_2, hcz11_3, hcz11_4⟩ := zc5 BK292; obtain ⟨hfz11_0, hfz11_1, hfz11_2, hfz11_3, hfz11_4⟩ := zf5 BK292)); go_upto_region 6 with (first | (go_at_call 23; (with_reducible refine (budwoodref11_InCode.calls a1 true _ A5.out).mono ?_); rintro e w' ⟨rfl, ⟨nd, rfl⟩⟩; (try exact zQ)) | (go_at_call 37; (with_reducible refine (budwoodref04_Decode.calls k a0 t286 t287 t288 t289 t290 t291 _ A7.out).mono ?_); rintro e w9 ⟨rfl, hb⟩; replace HB := Aside0.mk (below_step zB hb); (try clear hb); (try clear hb2); (try clear hk); (try clear hi)) | ((with_reducible refine gate_dst (N := 8) rfl ?_); refine zX (N := 8) (cs := #[.int .u8 0, .int .u8 0, .int .u8 0, .int .u8 0, .int .i32 0]) (t := 75) ?_ ?_; (focus first | (go_simp; done) | (go_simp; rfl)); intro gb292 hg w10 hbox hb; have BK292 := Aside0.mk (hbox); have GW292 := Aside0.mk (zS hg : w.heap.size ≤ gb292); have GE292 := Aside0.mk (zS hg : w.heap.size ≤ gb292); replace HB := Aside0.mk (below_step zB hb); clear hb hbox hg; obtain ⟨hcz11_0, hcz11_1, hcz11_2, hcz11_3, hcz11_4⟩ := zc5 BK292; obtain ⟨hfz11_0, hfz11_1, hfz11_2, hfz11_3, hfz11_4⟩ := zf5 BK292)))
      (try simp only [Act.put, List.setIfInBounds_toArray, List.set_cons_zero, List.set_cons_succ])
      go_cut [23] (fun v23 wc => ∃ (kq : Nat) (x23_7 : Bool), v23 = .bool x23_7 ∧ Aside0 (budwoodref15_Apply.j0 kq a1 a2 x23_7 t286 t287 t288 t289 t290 = some (r1, r2)) ∧ Aside0 (kq ≤ k) ∧ Aside0 (wc.heap[gb292]? = some (.cells #[.int .u8 t286, .int .u8 t287, .int .u8 t288, .int .u8 t289, .int .i32 t290] 75 (0, 0))) ∧ Aside0 (Below w.heap.size w wc))
      case first =>
        have H := HC8.out
        clear HC8
        by_cases c12 : t291 = 0
        · rw [if_pos c12] at H
          have c12b0 : (t291 == 0) = true := beq_iff_eq.mpr c12
          have c12b1 : (t291 != 0) = false := bne_eq_false_iff_eq.mpr c12
          clear c12
          (first | rw [c12b0] | (simp only [i64_w, i32_w]; rw [c12b0]) | skip)
          replace H := Option.bind_eq_some_iff.mp H
          obtain ⟨t293, A130, H⟩ := H
          replace H : (if t286 = t293 then (budwoodref15_Apply.j0 k a1 a2 (t290 != 0) t286 t287 t288 t289 t290) else (budwoodref15_Apply.j0 k a1 a2 true t286 t287 t288 t289 t290)) = some (r1, r2) := H
          have A13 := Aside0.mk A130
          clear A130
          by_cases c14 : t286 = t293
          · rw [if_pos c14] at H
            have c14b0 : (t286 == t293) = true := beq_iff_eq.mpr c14
            have c14b1 : (t286 != t293) = false := bne_eq_false_iff_eq.mpr c14
            clear c14
            have H' := Aside0.mk H
            clear H
            obtain ⟨hcz15_0, hcz15_1, hcz15_2, hcz15_3, hcz15_4⟩ := zc5 BK292
            obtain ⟨hfz15_0, hfz15_1, hfz15_2, hfz15_3, hfz15_4⟩ := zf5 BK292
            go_wp2_with (first | (go_at_call 38; (with_reducible refine (budwoodref15_op.calls a1 t293 _ A13.out).mono ?_); rintro e w' ⟨rfl, ⟨nd, rfl⟩⟩; (try exact zQ)))
            repeat (go_quiet (first | (go_at_call 38; (with_reducible refine (budwoodref15_op.calls a1 t293 _ A13.out).mono ?_); rintro e w' ⟨rfl, ⟨nd, rfl⟩⟩; (try exact zQ))); try go_wp2_with (first | (go_at_call 38; (with_reducible refine (budwoodref15_op.calls a1 t293 _ A13.out).mono ?_); rintro e w' ⟨rfl, ⟨nd, rfl⟩⟩; (try exact zQ))))
            go_meet
            case rel => exact ⟨_, ((t290 != 0)), (zE), H', ⟨by first | omega | exact Nat.le_refl _⟩, ⟨zV⟩, ⟨zB⟩⟩
          · rw [if_neg c14] at H
            have c14b0 : (t286 == t293) = false := beq_eq_false_iff_ne.mpr c14
            have c14b1 : (t286 != t293) = true := bne_iff_ne.mpr c14
            have H' := Aside0.mk H
            clear H
            obtain ⟨hcz16_0, hcz16_1, hcz16_2, hcz16_3, hcz16_4⟩ := zc5 BK292
            obtain ⟨hfz16_0, hfz16_1, hfz16_2, hfz16_3, hfz16_4⟩ := zf5 BK292
            go_wp2_with (first | (go_at_call 38; (with_reducible refine (budwoodref15_op.calls a1 t293 _ A13.out).mono ?_); rintro e w' ⟨rfl, ⟨nd, rfl⟩⟩; (try exact zQ)))
            repeat (go_quiet (first | (go_at_call 38; (with_reducible refine (budwoodref15_op.calls a1 t293 _ A13.out).mono ?_); rintro e w' ⟨rfl, ⟨nd, rfl⟩⟩; (try exact zQ))); try go_wp2_with (first | (go_at_call 38; (with_reducible refine (budwoodref15_op.calls a1 t293 _ A13.out).mono ?_); rintro e w' ⟨rfl, ⟨nd, rfl⟩⟩; (try exact zQ))))
            go_meet
            case rel => exact ⟨_, (true), (zE), H', ⟨by first | omega | exact Nat.le_refl _⟩, ⟨zV⟩, ⟨zB⟩⟩
        · rw [if_neg c12] at H
          have c12b0 : (t291 == 0) = false := beq_eq_false_iff_ne.mpr c12
          have c12b1 : (t291 != 0) = true := bne_iff_ne.mpr c12
          (first | rw [c12b0] | (simp only [i64_w, i32_w]; rw [c12b0]) | skip)
          have H' := Aside0.mk H
          clear H
          go_wp2
          repeat (go_quiet (fail); try go_wp2)
          go_meet
          case rel => exact ⟨_, (true), (zE), H', ⟨by first | omega | exact Nat.le_refl _⟩, ⟨zV⟩, ⟨zB⟩⟩
      case rest =>
        clear HC8
        try clear c1
        try clear c2
        try clear p2
        try clear c4
        try clear c4b0
        try clear c6
        try clear c12
        try clear c12b0
        try clear c12b1
        try clear c14
        try clear c14b0
        try clear c14b1
        try clear hcz11_0 hcz11_1 hcz11_2 hcz11_3 hcz11_4
        try clear hcz15_0 hcz15_1 hcz15_2 hcz15_3 hcz15_4
        try clear hcz16_0 hcz16_1 hcz16_2 hcz16_3 hcz16_4
        try clear hfz11_0 hfz11_1 hfz11_2 hfz11_3 hfz11_4
        try clear hfz15_0 hfz15_1 hfz15_2 hfz15_3 hfz15_4
        try clear hfz16_0 hfz16_1 hfz16_2 hfz16_3 hfz16_4
        obtain ⟨kq, x23_7, rfl, HA, HJ7, BK292, HB⟩ := hcut
        cases kq with
        | zero => exact absurd HA.out (by simp [budwoodref15_Apply.j0])
        | succ kj7 =>
          have H := HA.out
          clear HA
          simp only [budwoodref15_Apply.j0] at H
          by_cases c17 : x23_7 = true
          · subst c17
            replace H := zT H
            simp only [Option.some.injEq, Prod.mk.injEq] at H
            obtain ⟨rfl, rfl⟩ := H
            go_wp2
            repeat (go_quiet (fail); try go_wp2)
            go_ret2
            exact ⟨zF, zB⟩
          · replace c17 := Bool.eq_false_iff.mpr c17
            subst c17
            replace H := zU H
            replace H := Option.bind_eq_some_iff.mp H
            obtain ⟨t294, A180, H⟩ := H
            replace H : (if a2 > t294 then (some (0, 30)) else ((budwoodref04_Encode.f kj7 t286 t287 t288 t289 (wrap32 (a2))).bind fun bt295 => (some (bt295.1, bt295.2)))) = some (r1, r2) := H
            have A18 := Aside0.mk A180
            clear A180
            by_cases c19 : a2 > t294
            · rw [if_pos c19] at H
              have c19b0 : decide (t294 < a2) = true := decide_eq_true c19
              clear c19
              simp only [Option.some.injEq, Prod.mk.injEq] at H
              obtain ⟨rfl, rfl⟩ := H
              go_wp2_with (first | (go_at_call 39; (with_reducible refine (budwoodref15_Reach.calls a1 t294 _ A18.out).mono ?_); rintro e w' ⟨rfl, ⟨nd, rfl⟩⟩; (try exact zQ)))
              repeat (go_quiet (first | (go_at_call 39; (with_reducible refine (budwoodref15_Reach.calls a1 t294 _ A18.out).mono ?_); rintro e w' ⟨rfl, ⟨nd, rfl⟩⟩; (try exact zQ))); try go_wp2_with (first | (go_at_call 39; (with_reducible refine (budwoodref15_Reach.calls a1 t294 _ A18.out).mono ?_); rintro e w' ⟨rfl, ⟨nd, rfl⟩⟩; (try exact zQ))))
              go_ret2
              exact ⟨zF, zB⟩
            · rw [if_neg c19] at H
              have c19b0 : decide (t294 < a2) = false := decide_eq_false c19
              clear c19
              replace H := Option.bind_eq_some_iff.mp H
              obtain ⟨⟨t295, t296⟩, A200, H⟩ := H
              replace H : (some (t295, t296)) = some (r1, r2) := H
              have A20 := Aside0.mk A200
              clear A200
              simp only [Option.some.injEq, Prod.mk.injEq] at H
              obtain ⟨rfl, rfl⟩ := H
              go_wp2_with (first | (go_at_call 39; (with_reducible refine (budwoodref15_Reach.calls a1 t294 _ A18.out).mono ?_); rintro e w' ⟨rfl, ⟨nd, rfl⟩⟩; (try exact zQ); obtain ⟨hcz21_0, hcz21_1, hcz21_2, hcz21_3, hcz21_4⟩ := zc5 BK292; obtain ⟨hfz21_0, hfz21_1, hfz21_2, hfz21_3, hfz21_4⟩ := zf5 BK292) | (go_at_call 40; (with_reducible refine (budwoodref04_Encode.calls kj7 t286 t287 t288 t289 (wrap32 (a2)) t295 t296 _ A20.out).mono ?_); rintro e w22 ⟨rfl, hb⟩; replace BK292 := Aside0.mk (blk_below (g := gb292) (o := .cells #[.int .u8 t286, .int .u8 t287, .int .u8 t288, .int .u8 t289, .int .i32 (wrap32 (a2))] 75 (0, 0)) zV hb); replace HB := Aside0.mk (below_step zB hb); (try clear hb); (try clear hb2); (try clear hk); (try clear hi)))
              repeat (go_quiet (first | (go_at_call 39; (with_reducible refine (budwoodref15_Reach.calls a1 t294 _ A18.out).mono ?_); rintro e w' ⟨rfl, ⟨nd, rfl⟩⟩; (try exact zQ); obtain ⟨hcz21_0, hcz21_1, hcz21_2, hcz21_3, hcz21_4⟩ := zc5 BK292; obtain ⟨hfz21_0, hfz21_1, hfz21_2, hfz21_3, hfz21_4⟩ := zf5 BK292) | (go_at_call 40; (with_reducible refine (budwoodref04_Encode.calls kj7 t286 t287 t288 t289 (wrap32 (a2)) t295 t296 _ A20.out).mono ?_); rintro e w22 ⟨rfl, hb⟩; replace BK292 := Aside0.mk (blk_below (g := gb292) (o := .cells #[.int .u8 t286, .int .u8 t287, .int .u8 t288, .int .u8 t289, .int .i32 (wrap32 (a2))] 75 (0, 0)) zV hb); replace HB := Aside0.mk (below_step zB hb); (try clear hb); (try clear hb2); (try clear hk); (try clear hi))); try go_wp2_with (first | (go_at_call 39; (with_reducible refine (budwoodref15_Reach.calls a1 t294 _ A18.out).mono ?_); rintro e w' ⟨rfl, ⟨nd, rfl⟩⟩; (try exact zQ); obtain ⟨hcz21_0, hcz21_1, hcz21_2, hcz21_3, hcz21_4⟩ := zc5 BK292; obtain ⟨hfz21_0, hfz21_1, hfz21_2, hfz21_3, hfz21_4⟩ := zf5 BK292) | (go_at_call 40; (with_reducible refine (budwoodref04_Encode.calls kj7 t286 t287 t288 t289 (wrap32 (a2)) t295 t296 _ A20.out).mono ?_); rintro e w22 ⟨rfl, hb⟩; replace BK292 := Aside0.mk (blk_below (g := gb292) (o := .cells #[.int .u8 t286, .int .u8 t287, .int .u8 t288, .int .u8 t289, .int .i32 (wrap32 (a2))] 75 (0, 0)) zV hb); replace HB := Aside0.mk (below_step zB hb); (try clear hb); (try clear hb2); (try clear hk); (try clear hi))))
              go_ret2
              exact ⟨zF, zB⟩
    · replace c6 := Bool.eq_false_iff.mpr c6
      subst c6
      replace H := zU H
      simp only [Option.some.injEq, Prod.mk.injEq] at H
      obtain ⟨rfl, rfl⟩ := H
      go_enter Try.func25, Try.ntmps25
      go_wp2_with (first | (go_at_call 23; (with_reducible refine (budwoodref11_InCode.calls a1 false _ A5.out).mono ?_); rintro e w' ⟨rfl, ⟨nd, rfl⟩⟩; (try exact zQ)))
      repeat (go_quiet (first | (go_at_call 23; (with_reducible refine (budwoodref11_InCode.calls a1 false _ A5.out).mono ?_); rintro e w' ⟨rfl, ⟨nd, rfl⟩⟩; (try exact zQ))); try go_wp2_with (first | (go_at_call 23; (with_reducible refine (budwoodref11_InCode.calls a1 false _ A5.out).mono ?_); rintro e w' ⟨rfl, ⟨nd, rfl⟩⟩; (try exact zQ))))
      go_ret2
      exact ⟨zF, zB⟩

/-! ### budwoodref16_Word: function 8 -/
set_option maxHeartbeats 8000000 in
set_option maxRecDepth 100000 in
theorem budwoodref16_Word.calls (k : Nat) (a0_0 : ByteArray) (A0_1 : Option Addr) (c0_1 : Nat) (l0_1 : List ByteArray) (A0_2 : Option Addr) (c0_2 : Nat) (l0_2 : List ByteArray) (A0_3 : Option Addr) (c0_3 : Nat) (l0_3 : List Int) (A0_4 : Option Addr) (c0_4 : Nat) (l0_4 : List Int) (A0_5 : Option Addr) (c0_5 : Nat) (l0_5 : List (S53)) (a1_0 : Int) (a1_1 : Int) (A2 : Option Addr) (c2 : Nat) (l2 : List Int) (a3 : Int) (r1 : Int) (r2 : Int) (w : World) (hr0_1 : Kd.C Kd.string w A0_1 l0_1.length l0_1) (hc0_1 : l0_1.length ≤ c0_1) (hr0_2 : Kd.C Kd.string w A0_2 l0_2.length l0_2) (hc0_2 : l0_2.length ≤ c0_2) (hr0_3 : Kd.C (Kd.int .u32) w A0_3 l0_3.length l0_3) (hc0_3 : l0_3.length ≤ c0_3) (hr0_4 : Kd.C (Kd.int .u32) w A0_4 l0_4.length l0_4) (hc0_4 : l0_4.length ≤ c0_4) (hr0_5 : Kd.C k53 w A0_5 l0_5.length l0_5) (hc0_5 : l0_5.length ≤ c0_5) (hr2 : Kd.C (Kd.int .u32) w A2 l2.length l2) (hc2 : l2.length ≤ c2) (h : budwoodref16_Word.f k a0_0 l0_1 l0_2 l0_3 l0_4 l0_5 a1_0 a1_1 l2 a3 = some (r1, r2)) :
    Calls Try.prog 8 #[.agg #[.string a0_0, .slice A0_1 l0_1.length c0_1, .slice A0_2 l0_2.length c0_2, .slice A0_3 l0_3.length c0_3, .slice A0_4 l0_4.length c0_4, .slice A0_5 l0_5.length c0_5], .agg #[.int .u32 a1_0, .int .u32 a1_1], .slice A2 l2.length c2, .int .i64 a3] w fun e w' => e = .returned (.tuple #[.int .u32 r1, .int .i64 r2]) ∧ Below w.heap.size w w' := by
  have hu26 := Try.underlying26
  have hu39 := Try.underlying39
  have hu53 := Try.underlying53
  have HR0_1 := Aside0.mk hr0_1
  have HC0_1 := Aside0.mk hc0_1
  clear hr0_1 hc0_1
  have HR0_2 := Aside0.mk hr0_2
  have HC0_2 := Aside0.mk hc0_2
  clear hr0_2 hc0_2
  have HR0_3 := Aside0.mk hr0_3
  have HC0_3 := Aside0.mk hc0_3
  clear hr0_3 hc0_3
  have HR0_4 := Aside0.mk hr0_4
  have HC0_4 := Aside0.mk hc0_4
  clear hr0_4 hc0_4
  have HR0_5 := Aside0.mk hr0_5
  have HC0_5 := Aside0.mk hc0_5
  clear hr0_5 hc0_5
  have HR2 := Aside0.mk hr2
  have HC2 := Aside0.mk hc2
  clear hr2 hc2
  have HB := Aside0.mk (Below.refl w.heap.size w)
  have H : ((budwoodref12_Raw.f k a0_0 l0_1 l0_2 l0_3 l0_4 l0_5 a3).bind fun t299 => ((budwoodref12_Spot.f k a0_0 l0_1 l0_2 l0_3 l0_4 l0_5 a3).bind fun bt300 => (budwoodref16_Word.l0 k l2 t299 bt300.1 bt300.2.1 bt300.2.2 0 a0_0 l0_1 l0_2 l0_3 l0_4 l0_5 a1_0 a1_1))) = some (r1, r2) := h
  clear h
  replace H := Option.bind_eq_some_iff.mp H
  obtain ⟨t299, A50, H⟩ := H
  replace H : ((budwoodref12_Spot.f k a0_0 l0_1 l0_2 l0_3 l0_4 l0_5 a3).bind fun bt300 => (budwoodref16_Word.l0 k l2 t299 bt300.1 bt300.2.1 bt300.2.2 0 a0_0 l0_1 l0_2 l0_3 l0_4 l0_5 a1_0 a1_1)) = some (r1, r2) := H
  have A5 := Aside0.mk A50
  clear A50
  replace H := Option.bind_eq_some_iff.mp H
  obtain ⟨⟨t300, t301, t302⟩, A60, H⟩ := H
  replace H : (budwoodref16_Word.l0 k l2 t299 t300 t301 t302 0 a0_0 l0_1 l0_2 l0_3 l0_4 l0_5 a1_0 a1_1) = some (r1, r2) := H
  have A6 := Aside0.mk A60
  clear A60
  have H' := Aside0.mk H
  clear H
  go_enter Try.func8, Try.ntmps8
  go_wp2_with (first | ((with_reducible refine gate_dst (N := 4) rfl ?_); refine zX (N := 4) (cs := #[.string a0_0, .slice A0_1 l0_1.length c0_1, .slice A0_2 l0_2.length c0_2, .slice A0_3 l0_3.length c0_3, .slice A0_4 l0_4.length c0_4, .slice A0_5 l0_5.length c0_5]) (t := 26) ?_ ?_; (focus first | (go_simp; done) | (go_simp; rfl)); intro gb297 hg w7 hbox hb; have BK297 := Aside0.mk (hbox); have GW297 := Aside0.mk (zS hg : w.heap.size ≤ gb297); have GE297 := Aside0.mk (zS hg : w.heap.size ≤ gb297); replace HB := Aside0.mk (below_step zB hb); clear hb hbox hg) | ((with_reducible refine gate_dst (N := 5) rfl ?_); refine zX (N := 5) (cs := #[.int .u32 a1_0, .int .u32 a1_1]) (t := 39) ?_ ?_; (focus first | (go_simp; done) | (go_simp; rfl)); intro gb298 hg w8 hbox hb; have BK298 := Aside0.mk (hbox); have GW298 := Aside0.mk (zS hg : w.heap.size ≤ gb298); have GE298 := Aside0.mk (zS hg : w.heap.size ≤ gb298); have NB297_298 := Aside0.mk (zlt hg BK297 : gb297 ≠ gb298); have NB298_297 := Aside0.mk (zgt hg BK297 : gb298 ≠ gb297); replace BK297 := Aside0.mk (zL BK297 hb); replace HB := Aside0.mk (below_step zB hb); clear hb hbox hg; have hnb9 := NB297_298.out; have hnc9 := NB298_297.out; obtain ⟨hcz10_0, hcz10_1, hcz10_2, hcz10_3, hcz10_4, hcz10_5⟩ := zc6 BK297; obtain ⟨hfz10_0, hfz10_1, hfz10_2, hfz10_3, hfz10_4, hfz10_5⟩ := zf6 BK297) | ((with_reducible refine gate_callee (f := 21) rfl ?_); refine zG (some 20) Try.func21 #[.agg #[.string a0_0, .slice A0_1 l0_1.length c0_1, .slice A0_2 l0_2.length c0_2, .slice A0_3 l0_3.length c0_3, .slice A0_4 l0_4.length c0_4, .slice A0_5 l0_5.length c0_5], .int .i64 a3] ?_; (with_reducible refine (budwoodref12_Raw.calls k a0_0 _ _ l0_1 _ _ l0_2 _ _ l0_3 _ _ l0_4 _ _ l0_5 a3 t299 _ ?side1 ?side2 ?side3 ?side4 ?side5 ?side6 ?side7 ?side8 ?side9 ?side10 A5.out).mono ?_); (case side1 => exact zC); (case side2 => exact HC0_1.out); (case side3 => exact zC); (case side4 => exact HC0_2.out); (case side5 => exact zC); (case side6 => exact HC0_3.out); (case side7 => exact zC); (case side8 => exact HC0_4.out); (case side9 => exact zC); (case side10 => exact HC0_5.out); rintro e w11 ⟨rfl, hb⟩; refine ⟨_, rfl, ?_⟩; replace BK297 := Aside0.mk (zL BK297 hb); replace BK298 := Aside0.mk (zL BK298 hb); replace HB := Aside0.mk (below_step zB hb); (try clear hb); (try clear hb2); (try clear hk); (try clear hi); obtain ⟨hcz12_0, hcz12_1, hcz12_2, hcz12_3, hcz12_4, hcz12_5⟩ := zc6 BK297; obtain ⟨hfz12_0, hfz12_1, hfz12_2, hfz12_3, hfz12_4, hfz12_5⟩ := zf6 BK297) | ((with_reducible refine gate_callee (f := 22) rfl ?_); refine zG (some 24) Try.func22 #[.agg #[.string a0_0, .slice A0_1 l0_1.length c0_1, .slice A0_2 l0_2.length c0_2, .slice A0_3 l0_3.length c0_3, .slice A0_4 l0_4.length c0_4, .slice A0_5 l0_5.length c0_5], .int .i64 a3] ?_; (with_reducible refine (budwoodref12_Spot.calls k a0_0 _ _ l0_1 _ _ l0_2 _ _ l0_3 _ _ l0_4 _ _ l0_5 a3 t300 t301 t302 _ ?side1 ?side2 ?side3 ?side4 ?side5 ?side6 ?side7 ?side8 ?side9 ?side10 A6.out).mono ?_); (case side1 => exact zC); (case side2 => exact HC0_1.out); (case side3 => exact zC); (case side4 => exact HC0_2.out); (case side5 => exact zC); (case side6 => exact HC0_3.out); (case side7 => exact zC); (case side8 => exact HC0_4.out); (case side9 => exact zC); (case side10 => exact HC0_5.out); rintro e w13 ⟨rfl, hb⟩; refine ⟨_, rfl, ?_⟩; replace BK297 := Aside0.mk (zL BK297 hb); replace BK298 := Aside0.mk (zL BK298 hb); replace HB := Aside0.mk (below_step zB hb); (try clear hb); (try clear hb2); (try clear hk); (try clear hi)))
  go_loopg [14] k (fun kq v14 w' => ∃ (x14_1 : Int), v14 = .int .i64 x14_1 ∧ Aside0 (budwoodref16_Word.l0 kq l2 t299 t300 t301 t302 x14_1 a0_0 l0_1 l0_2 l0_3 l0_4 l0_5 a1_0 a1_1 = some (r1, r2)) ∧ Aside0 (kq ≤ k) ∧ Aside0 (w'.heap[gb297]? = some (.cells #[.string a0_0, (.slice A0_1 l0_1.length c0_1), (.slice A0_2 l0_2.length c0_2), (.slice A0_3 l0_3.length c0_3), (.slice A0_4 l0_4.length c0_4), (.slice A0_5 l0_5.length c0_5)] 26 (0, 0))) ∧ Aside0 (w'.heap[gb298]? = some (.cells #[.int .u32 a1_0, .int .u32 a1_1] 39 (0, 0))) ∧ Aside0 (Below w.heap.size w w'))
  case atStart => exact ⟨(0), (zE), H', ⟨Nat.le_refl _⟩, ⟨zK⟩, ⟨zK⟩, ⟨zB⟩⟩
  case round =>
    clear H'
    try clear c2
    try clear p2
    try clear c8
    try clear c9
    try clear hcz10_0 hcz10_1 hcz10_2 hcz10_3 hcz10_4 hcz10_5
    try clear hcz12_0 hcz12_1 hcz12_2 hcz12_3 hcz12_4 hcz12_5
    try clear hfz10_0 hfz10_1 hfz10_2 hfz10_3 hfz10_4 hfz10_5
    try clear hfz12_0 hfz12_1 hfz12_2 hfz12_3 hfz12_4 hfz12_5
    obtain ⟨x14_1, rfl, HA, HK1, BK297, BK298, HB⟩ := hrel
    cases gk with
    | zero => exact absurd HA.out (by simp [budwoodref16_Word.l0])
    | succ k1 =>
      have H := HA.out
      clear HA
      simp only [budwoodref16_Word.l0] at H
      have HC14 := Aside0.mk H
      clear H
      go_upto_region 4 with (fail)
      go_cut [35] (fun v35 wc => ∃ (kq : Nat) (x35_13 : Bool), v35 = .bool x35_13 ∧ Aside0 (budwoodref16_Word.j1 kq l2 t299 t300 t301 t302 x14_1 x35_13 a0_0 l0_1 l0_2 l0_3 l0_4 l0_5 a1_0 a1_1 = some (r1, r2)) ∧ Aside0 (kq ≤ k1) ∧ Aside0 (wc.heap[gb297]? = some (.cells #[.string a0_0, (.slice A0_1 l0_1.length c0_1), (.slice A0_2 l0_2.length c0_2), (.slice A0_3 l0_3.length c0_3), (.slice A0_4 l0_4.length c0_4), (.slice A0_5 l0_5.length c0_5)] 26 (0, 0))) ∧ Aside0 (wc.heap[gb298]? = some (.cells #[.int .u32 a1_0, .int .u32 a1_1] 39 (0, 0))) ∧ Aside0 (Below w.heap.size w wc))
      case first =>
        have H := HC14.out
        clear HC14
        by_cases c15 : x14_1 < (l0_5.length : Int)
        · rw [if_pos c15] at H
          have c15b0 : decide (x14_1 < (l0_5.length : Int)) = true := decide_eq_true c15
          clear c15
          (first | rw [c15b0] | (simp only [i64_w, i32_w]; rw [c15b0]) | skip)
          have H' := Aside0.mk H
          clear H
          have hnb16 := NB297_298.out
          have hnc16 := NB298_297.out
          obtain ⟨hcz17_0, hcz17_1, hcz17_2, hcz17_3, hcz17_4, hcz17_5⟩ := zc6 BK297
          obtain ⟨hfz17_0, hfz17_1, hfz17_2, hfz17_3, hfz17_4, hfz17_5⟩ := zf6 BK297
          go_wp2
          go_meet
          case rel => exact ⟨_, (t302), (zE), H', ⟨by have := HK1.out; first | omega | exact Nat.le_refl _⟩, ⟨zK⟩, ⟨zK⟩, ⟨zB⟩⟩
        · rw [if_neg c15] at H
          have c15b0 : decide (x14_1 < (l0_5.length : Int)) = false := decide_eq_false c15
          clear c15
          (first | rw [c15b0] | (simp only [i64_w, i32_w]; rw [c15b0]) | skip)
          have H' := Aside0.mk H
          clear H
          have hnb18 := NB297_298.out
          have hnc18 := NB298_297.out
          obtain ⟨hcz19_0, hcz19_1, hcz19_2, hcz19_3, hcz19_4, hcz19_5⟩ := zc6 BK297
          obtain ⟨hfz19_0, hfz19_1, hfz19_2, hfz19_3, hfz19_4, hfz19_5⟩ := zf6 BK297
          go_wp2
          go_meet
          case rel => exact ⟨_, (false), (zE), H', ⟨by have := HK1.out; first | omega | exact Nat.le_refl _⟩, ⟨zK⟩, ⟨zK⟩, ⟨zB⟩⟩
      case rest =>
        clear HC14
        try clear c1
        try clear c2
        try clear p2
        try clear c8
        try clear c9
        try clear c15
        try clear c15b0
        try clear c16
        try clear c18
        try clear hcz10_0 hcz10_1 hcz10_2 hcz10_3 hcz10_4 hcz10_5
        try clear hcz12_0 hcz12_1 hcz12_2 hcz12_3 hcz12_4 hcz12_5
        try clear hcz17_0 hcz17_1 hcz17_2 hcz17_3 hcz17_4 hcz17_5
        try clear hcz19_0 hcz19_1 hcz19_2 hcz19_3 hcz19_4 hcz19_5
        try clear hfz10_0 hfz10_1 hfz10_2 hfz10_3 hfz10_4 hfz10_5
        try clear hfz12_0 hfz12_1 hfz12_2 hfz12_3 hfz12_4 hfz12_5
        try clear hfz17_0 hfz17_1 hfz17_2 hfz17_3 hfz17_4 hfz17_5
        try clear hfz19_0 hfz19_1 hfz19_2 hfz19_3 hfz19_4 hfz19_5
        try clear p2
        obtain ⟨kq, x35_13, rfl, HA, HJ13, BK297, BK298, HB⟩ := hcut
        cases kq with
        | zero => exact absurd HA.out (by simp [budwoodref16_Word.j1])
        | succ kj13 =>
          have H := HA.out
          clear HA
          simp only [budwoodref16_Word.j1] at H
          by_cases c20 : x35_13 = true
          · subst c20
            replace H := zT H
            by_cases c21 : 0 ≤ x14_1
            · rw [if_pos c21] at H
              have c21b0 : decide (0 ≤ x14_1) = true := decide_eq_true c21
              clear c21
              by_cases c22 : x14_1 < (l0_5.length : Int)
              · rw [if_pos c22] at H
                have c22b0 : decide (x14_1 < (l0_5.length : Int)) = true := decide_eq_true c22
                clear c22
                have HC23 := Aside0.mk H
                clear H
                have hnb24 := NB297_298.out
                have hnc24 := NB298_297.out
                obtain ⟨hcz25_0, hcz25_1, hcz25_2, hcz25_3, hcz25_4, hcz25_5⟩ := zc6 BK297
                obtain ⟨hfz25_0, hfz25_1, hfz25_2, hfz25_3, hfz25_4, hfz25_5⟩ := zf6 BK297
                have p303 : 0 ≤ (x14_1 : Int) := of_decide_eq_true (by first | (with_reducible assumption) | assumption)
                have q303 : x14_1 < (l0_5.length : Int) := of_decide_eq_true (by first | (with_reducible assumption) | assumption)
                obtain ⟨ad303, e303, hx303_0, hx303_1, hx303_2⟩ := at_T53 HR0_5.out x14_1 p303 q303
                cases e303
                replace hx303_0 := (HB.out.cell (World.block_lt_of_cell? w _ hx303_0)).trans hx303_0
                replace hx303_1 := (HB.out.cell (World.block_lt_of_cell? w _ hx303_1)).trans hx303_1
                replace hx303_2 := (HB.out.cell (World.block_lt_of_cell? w _ hx303_2)).trans hx303_2
                replace p303 := eq_true p303
                replace q303 := eq_true q303
                go_upto_region 7 with (first | ((with_reducible refine gate_dst (N := 15) rfl ?_); refine zX (N := 15) (cs := #[.int .u8 0, .int .u16 0, .int .u16 0]) (t := 53) ?_ ?_; (focus first | (go_simp; done) | (go_simp; rfl)); intro gb304 hg w26 hbox hb; have BK304 := Aside0.mk (hbox); have GW304 := Aside0.mk (zS hg : w.heap.size ≤ gb304); have GE304 := Aside0.mk (zS hg : w.heap.size ≤ gb304); have NB297_304 := Aside0.mk (zlt hg BK297 : gb297 ≠ gb304); have NB304_297 := Aside0.mk (zgt hg BK297 : gb304 ≠ gb297); have NB298_304 := Aside0.mk (zlt hg BK298 : gb298 ≠ gb304); have NB304_298 := Aside0.mk (zgt hg BK298 : gb304 ≠ gb298); replace BK297 := Aside0.mk (zL BK297 hb); replace BK298 := Aside0.mk (zL BK298 hb); replace HB := Aside0.mk (below_step zB hb); clear hb hbox hg; have hnb27 := NB304_297.out; have hnc27 := NB297_304.out; have hnb28 := NB304_298.out; have hnc28 := NB298_304.out; obtain ⟨hcz29_0, hcz29_1, hcz29_2⟩ := zc3 BK304; obtain ⟨hfz29_0, hfz29_1, hfz29_2⟩ := zf3 BK304))
                (try simp only [Act.put, List.setIfInBounds_toArray, List.set_cons_zero, List.set_cons_succ])
                go_cut [59] (fun v59 wc => ∃ (kq : Nat) (x59_22 : Bool), v59 = .bool x59_22 ∧ Aside0 (budwoodref16_Word.j2 kq l2 t299 t300 t301 t302 x14_1 x59_22 a0_0 l0_1 l0_2 l0_3 l0_4 l0_5 a1_0 a1_1 ((rd_T53 l0_5 x14_1).f0) ((rd_T53 l0_5 x14_1).f1) ((rd_T53 l0_5 x14_1).f2) = some (r1, r2)) ∧ Aside0 (kq ≤ kj13) ∧ Aside0 (wc.heap[gb297]? = some (.cells #[.string a0_0, (.slice A0_1 l0_1.length c0_1), (.slice A0_2 l0_2.length c0_2), (.slice A0_3 l0_3.length c0_3), (.slice A0_4 l0_4.length c0_4), (.slice (some ad303) l0_5.length c0_5)] 26 (0, 0))) ∧ Aside0 (wc.heap[gb298]? = some (.cells #[.int .u32 a1_0, .int .u32 a1_1] 39 (0, 0))) ∧ Aside0 (wc.heap[gb304]? = some (.cells #[.int .u8 ((rd_T53 l0_5 x14_1).f0), .int .u16 ((rd_T53 l0_5 x14_1).f1), .int .u16 ((rd_T53 l0_5 x14_1).f2)] 53 (0, 0))) ∧ Aside0 (Below w.heap.size w wc))
                case first =>
                  have H := HC23.out
                  clear HC23
                  by_cases c30 : (wrap64 ((rd_T53 l0_5 x14_1).f1)) = t301
                  · rw [if_pos c30] at H
                    have c30b0 : ((wrap64 ((rd_T53 l0_5 x14_1).f1)) == t301) = true := beq_iff_eq.mpr c30
                    have c30b1 : ((wrap64 ((rd_T53 l0_5 x14_1).f1)) != t301) = false := bne_eq_false_iff_eq.mpr c30
                    clear c30
                    (first | rw [c30b0] | (simp only [i64_w, i32_w]; rw [c30b0]) | skip)
                    replace H := Option.bind_eq_some_iff.mp H
                    obtain ⟨t305, A310, H⟩ := H
                    replace H : (if (t305 != t300) = true then (budwoodref16_Word.j2 kj13 l2 t299 t300 t301 t302 x14_1 true a0_0 l0_1 l0_2 l0_3 l0_4 l0_5 a1_0 a1_1 ((rd_T53 l0_5 x14_1).f0) ((rd_T53 l0_5 x14_1).f1) ((rd_T53 l0_5 x14_1).f2)) else (budwoodref16_Word.j2 kj13 l2 t299 t300 t301 t302 x14_1 (decide (((rd_T53 l0_5 x14_1).f0) > 7)) a0_0 l0_1 l0_2 l0_3 l0_4 l0_5 a1_0 a1_1 ((rd_T53 l0_5 x14_1).f0) ((rd_T53 l0_5 x14_1).f1) ((rd_T53 l0_5 x14_1).f2))) = some (r1, r2) := H
                    have A31 := Aside0.mk A310
                    clear A310
                    by_cases c32 : (t305 != t300) = true
                    · rw [if_pos c32] at H
                      have c32b0 : (t305 != t300) = true := c32
                      (try (have c32b1 : decide (t305 = t300) = false := by simpa using c32))
                      (try (have c32b2 : (t305 == t300) = false := by simpa using c32))
                      (try (have c32b3 : ¬ (t305 = t300) := by simpa using c32))
                      clear c32
                      have H' := Aside0.mk H
                      clear H
                      have hnb33 := NB304_297.out
                      have hnc33 := NB297_304.out
                      have hnb34 := NB304_298.out
                      have hnc34 := NB298_304.out
                      obtain ⟨hcz35_0, hcz35_1, hcz35_2⟩ := zc3 BK304
                      obtain ⟨hfz35_0, hfz35_1, hfz35_2⟩ := zf3 BK304
                      go_wp2_with (first | (go_at_call 23; (with_reducible refine (budwoodref11_InCode.calls ((rd_T53 l0_5 x14_1).f0) t305 _ A31.out).mono ?_); rintro e w' ⟨rfl, ⟨nd, rfl⟩⟩))
                      go_meet
                      case rel => exact ⟨_, (true), (zE), H', ⟨by have := HK1.out; have := HJ13.out; first | omega | exact Nat.le_refl _⟩, ⟨zV⟩, ⟨zV⟩, ⟨zV⟩, ⟨zB⟩⟩
                    · rw [if_neg c32] at H
                      have c32b0 : (t305 != t300) = false := by simpa using c32
                      (try (have c32b1 : decide (t305 = t300) = true := by simpa using c32))
                      (try (have c32b2 : (t305 == t300) = true := by simpa using c32))
                      clear c32
                      have H' := Aside0.mk H
                      clear H
                      have hnb36 := NB304_297.out
                      have hnc36 := NB297_304.out
                      have hnb37 := NB304_298.out
                      have hnc37 := NB298_304.out
                      obtain ⟨hcz38_0, hcz38_1, hcz38_2⟩ := zc3 BK304
                      obtain ⟨hfz38_0, hfz38_1, hfz38_2⟩ := zf3 BK304
                      go_wp2_with (first | (go_at_call 23; (with_reducible refine (budwoodref11_InCode.calls ((rd_T53 l0_5 x14_1).f0) t305 _ A31.out).mono ?_); rintro e w' ⟨rfl, ⟨nd, rfl⟩⟩))
                      go_meet
                      case rel => exact ⟨_, (decide (((rd_T53 l0_5 x14_1).f0) > 7)), (zE), H', ⟨by have := HK1.out; have := HJ13.out; first | omega | exact Nat.le_refl _⟩, ⟨zV⟩, ⟨zV⟩, ⟨zV⟩, ⟨zB⟩⟩
                  · rw [if_neg c30] at H
                    have c30b0 : ((wrap64 ((rd_T53 l0_5 x14_1).f1)) == t301) = false := beq_eq_false_iff_ne.mpr c30
                    have c30b1 : ((wrap64 ((rd_T53 l0_5 x14_1).f1)) != t301) = true := bne_iff_ne.mpr c30
                    (first | rw [c30b0] | (simp only [i64_w, i32_w]; rw [c30b0]) | skip)
                    have H' := Aside0.mk H
                    clear H
                    have hnb39 := NB304_297.out
                    have hnc39 := NB297_304.out
                    have hnb40 := NB304_298.out
                    have hnc40 := NB298_304.out
                    obtain ⟨hcz41_0, hcz41_1, hcz41_2⟩ := zc3 BK304
                    obtain ⟨hfz41_0, hfz41_1, hfz41_2⟩ := zf3 BK304
                    go_wp2
                    go_meet
                    case rel => exact ⟨_, (true), (zE), H', ⟨by have := HK1.out; have := HJ13.out; first | omega | exact Nat.le_refl _⟩, ⟨zV⟩, ⟨zV⟩, ⟨zV⟩, ⟨zB⟩⟩
                case rest =>
                  clear HC23
                  try clear c1
                  try clear c2
                  try clear p2
                  try clear c3
                  try clear p3
                  try clear q3
                  try clear hx3
                  try clear c4
                  try clear p6
                  try clear c8
                  try clear c9
                  try clear c15
                  try clear c15b0
                  try clear c16
                  try clear c18
                  try clear c20
                  try clear c21
                  try clear c21b0
                  try clear c22
                  try clear c22b0
                  try clear c24
                  try clear c27
                  try clear c28
                  try clear c30
                  try clear c30b0
                  try clear c30b1
                  try clear p30
                  try clear q30
                  try clear hx30
                  try clear c32
                  try clear c32b0
                  try clear c32b1
                  try clear c32b2
                  try clear c33
                  try clear c34
                  try clear c36
                  try clear c37
                  try clear c39
                  try clear c40
                  try clear hcz10_0 hcz10_1 hcz10_2 hcz10_3 hcz10_4 hcz10_5
                  try clear hcz12_0 hcz12_1 hcz12_2 hcz12_3 hcz12_4 hcz12_5
                  try clear hcz17_0 hcz17_1 hcz17_2 hcz17_3 hcz17_4 hcz17_5
                  try clear hcz19_0 hcz19_1 hcz19_2 hcz19_3 hcz19_4 hcz19_5
                  try clear hcz25_0 hcz25_1 hcz25_2 hcz25_3 hcz25_4 hcz25_5
                  try clear hcz29_0 hcz29_1 hcz29_2
                  try clear hcz35_0 hcz35_1 hcz35_2
                  try clear hcz38_0 hcz38_1 hcz38_2
                  try clear hcz41_0 hcz41_1 hcz41_2
                  try clear hfz10_0 hfz10_1 hfz10_2 hfz10_3 hfz10_4 hfz10_5
                  try clear hfz12_0 hfz12_1 hfz12_2 hfz12_3 hfz12_4 hfz12_5
                  try clear hfz17_0 hfz17_1 hfz17_2 hfz17_3 hfz17_4 hfz17_5
                  try clear hfz19_0 hfz19_1 hfz19_2 hfz19_3 hfz19_4 hfz19_5
                  try clear hfz25_0 hfz25_1 hfz25_2 hfz25_3 hfz25_4 hfz25_5
                  try clear hfz29_0 hfz29_1 hfz29_2
                  try clear hfz35_0 hfz35_1 hfz35_2
                  try clear hfz38_0 hfz38_1 hfz38_2
                  try clear hfz41_0 hfz41_1 hfz41_2
                  try clear hx303_0 hx303_1 hx303_2
                  try clear p2
                  try clear p303
                  try clear q303
                  obtain ⟨kq, x59_22, rfl, HA, HJ22, BK297, BK298, BK304, HB⟩ := hcut
                  cases kq with
                  | zero => exact absurd HA.out (by simp [budwoodref16_Word.j2])
                  | succ kj22 =>
                    have H := HA.out
                    clear HA
                    simp only [budwoodref16_Word.j2] at H
                    by_cases c42 : x59_22 = true
                    · subst c42
                      replace H := zT H
                      have H' := Aside0.mk H
                      clear H
                      go_wp2
                      go_roundg kj22
                      case measure => have := HK1.out; have := HJ13.out; have := HJ22.out; omega
                      case rel => exact ⟨(wrap64 (x14_1 + 1)), (zE), H', ⟨by have := HK1.out; have := HJ13.out; have := HJ22.out; omega⟩, ⟨zK⟩, ⟨zK⟩, ⟨zB⟩⟩
                    · replace c42 := Bool.eq_false_iff.mpr c42
                      subst c42
                      replace H := zU H
                      replace H := Option.bind_eq_some_iff.mp H
                      obtain ⟨⟨t306, t307⟩, A430, H⟩ := H
                      replace H : (if t307 = 0 then ((budwoodref15_Apply.f kj22 t299 ((rd_T53 l0_5 x14_1).f0) t306).bind fun bt308 => (some (bt308.1, bt308.2))) else (some (0, t307))) = some (r1, r2) := H
                      have A43 := Aside0.mk A430
                      clear A430
                      by_cases c44 : t307 = 0
                      · rw [if_pos c44] at H
                        have c44b0 : (t307 == 0) = true := beq_iff_eq.mpr c44
                        have c44b1 : (t307 != 0) = false := bne_eq_false_iff_eq.mpr c44
                        clear c44
                        replace H := Option.bind_eq_some_iff.mp H
                        obtain ⟨⟨t308, t309⟩, A450, H⟩ := H
                        replace H : (some (t308, t309)) = some (r1, r2) := H
                        have A45 := Aside0.mk A450
                        clear A450
                        simp only [Option.some.injEq, Prod.mk.injEq] at H
                        obtain ⟨rfl, rfl⟩ := H
                        have hnb46 := NB304_297.out
                        have hnc46 := NB297_304.out
                        have hnb47 := NB304_298.out
                        have hnc47 := NB298_304.out
                        obtain ⟨hcz48_0, hcz48_1, hcz48_2⟩ := zc3 BK304
                        obtain ⟨hfz48_0, hfz48_1, hfz48_2⟩ := zf3 BK304
                        have hnb49 := NB298_297.out
                        have hnc49 := NB297_298.out
                        obtain ⟨hcz50_0, hcz50_1⟩ := zc2 BK298
                        obtain ⟨hfz50_0, hfz50_1⟩ := zf2 BK298
                        go_wp2_with (first | ((with_reducible refine gate_callee (f := 24) rfl ?_); refine zG (some 64) Try.func24 #[.agg #[.int .u8 ((rd_T53 l0_5 x14_1).f0), .int .u16 ((rd_T53 l0_5 x14_1).f1), .int .u16 ((rd_T53 l0_5 x14_1).f2)], .agg #[.int .u32 a1_0, .int .u32 a1_1], .slice A2 l2.length c2] ?_; (with_reducible refine (budwoodref15_Value.calls kj22 ((rd_T53 l0_5 x14_1).f0) ((rd_T53 l0_5 x14_1).f1) ((rd_T53 l0_5 x14_1).f2) a1_0 a1_1 _ _ l2 t306 t307 _ ?side1 ?side2 A43.out).mono ?_); (case side1 => exact zC); (case side2 => exact HC2.out); rintro e w51 ⟨rfl, hb⟩; refine ⟨_, rfl, ?_⟩; replace BK297 := Aside0.mk (zL BK297 hb); replace BK298 := Aside0.mk (zL BK298 hb); replace BK304 := Aside0.mk (zL BK304 hb); replace HB := Aside0.mk (below_step zB hb); (try clear hb); (try clear hb2); (try clear hk); (try clear hi); obtain ⟨hcz52_0, hcz52_1, hcz52_2⟩ := zc3 BK304; obtain ⟨hfz52_0, hfz52_1, hfz52_2⟩ := zf3 BK304) | ((with_reducible refine gate_callee (f := 25) rfl ?_); refine zG (some 74) Try.func25 #[.int .u32 t299, .int .u8 ((rd_T53 l0_5 x14_1).f0), .int .u32 t306] ?_; (with_reducible refine (budwoodref15_Apply.calls kj22 t299 ((rd_T53 l0_5 x14_1).f0) t306 t308 t309 _ A45.out).mono ?_); rintro e w53 ⟨rfl, hb⟩; refine ⟨_, rfl, ?_⟩; replace BK297 := Aside0.mk (zL BK297 hb); replace BK298 := Aside0.mk (zL BK298 hb); replace BK304 := Aside0.mk (zL BK304 hb); replace HB := Aside0.mk (below_step zB hb); (try clear hb); (try clear hb2); (try clear hk); (try clear hi)))
                        go_ret2
                        exact ⟨zF, zB⟩
                      · rw [if_neg c44] at H
                        have c44b0 : (t307 == 0) = false := beq_eq_false_iff_ne.mpr c44
                        have c44b1 : (t307 != 0) = true := bne_iff_ne.mpr c44
                        simp only [Option.some.injEq, Prod.mk.injEq] at H
                        obtain ⟨rfl, rfl⟩ := H
                        have hnb54 := NB304_297.out
                        have hnc54 := NB297_304.out
                        have hnb55 := NB304_298.out
                        have hnc55 := NB298_304.out
                        obtain ⟨hcz56_0, hcz56_1, hcz56_2⟩ := zc3 BK304
                        obtain ⟨hfz56_0, hfz56_1, hfz56_2⟩ := zf3 BK304
                        have hnb57 := NB298_297.out
                        have hnc57 := NB297_298.out
                        obtain ⟨hcz58_0, hcz58_1⟩ := zc2 BK298
                        obtain ⟨hfz58_0, hfz58_1⟩ := zf2 BK298
                        go_wp2_with (first | ((with_reducible refine gate_callee (f := 24) rfl ?_); refine zG (some 64) Try.func24 #[.agg #[.int .u8 ((rd_T53 l0_5 x14_1).f0), .int .u16 ((rd_T53 l0_5 x14_1).f1), .int .u16 ((rd_T53 l0_5 x14_1).f2)], .agg #[.int .u32 a1_0, .int .u32 a1_1], .slice A2 l2.length c2] ?_; (with_reducible refine (budwoodref15_Value.calls kj22 ((rd_T53 l0_5 x14_1).f0) ((rd_T53 l0_5 x14_1).f1) ((rd_T53 l0_5 x14_1).f2) a1_0 a1_1 _ _ l2 t306 t307 _ ?side1 ?side2 A43.out).mono ?_); (case side1 => exact zC); (case side2 => exact HC2.out); rintro e w59 ⟨rfl, hb⟩; refine ⟨_, rfl, ?_⟩; replace BK297 := Aside0.mk (zL BK297 hb); replace BK298 := Aside0.mk (zL BK298 hb); replace BK304 := Aside0.mk (zL BK304 hb); replace HB := Aside0.mk (below_step zB hb); (try clear hb); (try clear hb2); (try clear hk); (try clear hi)))
                        go_ret2
                        exact ⟨zF, zB⟩
              · rw [if_neg c22] at H
                exact absurd H (by simp)
            · rw [if_neg c21] at H
              exact absurd H (by simp)
          · replace c20 := Bool.eq_false_iff.mpr c20
            subst c20
            replace H := zU H
            simp only [Option.some.injEq, Prod.mk.injEq] at H
            obtain ⟨rfl, rfl⟩ := H
            go_wp2
            go_ret2
            exact ⟨zF, zB⟩

end Go.Proofs.Ytllkloneapjgjaa.P
