-- WRITTEN BY bud.py (a program of this session's over the kit's print). Not trusted: Lean checks it.
import Derived.Test.YtllkloneapjgjaaPx0
import Derived.Test.YtllkloneapjgjaaPxf
namespace Go.Proofs.Ytllkloneapjgjaa.P
open Go.RowKit Go.Proofs.YtllkloneapjgjaaW.PrintWords Go.Proofs.YtllkloneapjgjaaW.PrintLast Go.Proofs.YtllkloneapjgjaaW.PrintMore
attribute [local go_sem] max2_int min2_int max_two min_two max_three min_three max_four min_four   -- for this text's walks alone
set_option linter.unusedVariables false
set_option linter.unusedSimpArgs false

/-! ### budwoodref04_Uses: function 48 -/
set_option maxHeartbeats 8000000 in
set_option maxRecDepth 100000 in
theorem budwoodref04_Uses.calls (k : Nat) (a0 : Int) (r1 : Bool) (r2 : Bool) (r3 : Bool) (r4 : Bool) (w : World) (h : budwoodref04_Uses.f k a0 = some (r1, r2, r3, r4)) :
    Calls Try.prog 48 #[.int .u8 a0] w fun e w' => e = .returned (.agg #[.bool r1, .bool r2, .bool r3, .bool r4]) ∧ Below w.heap.size w w' := by
  have hu91 := Try.underlying91
  have HB := Aside0.mk (Below.refl w.heap.size w)
  have H : (if a0 = 2 then (some (true, false, false, true)) else (if a0 = 3 then (budwoodref04_Uses.j0 k a0 (a0 == 3)) else (if a0 = 4 then (budwoodref04_Uses.j0 k a0 (a0 == 4)) else (if a0 = 5 then (budwoodref04_Uses.j0 k a0 (a0 == 5)) else (if a0 = 6 then (budwoodref04_Uses.j0 k a0 (a0 == 6)) else (if a0 = 7 then (budwoodref04_Uses.j0 k a0 (a0 == 7)) else (if a0 = 8 then (budwoodref04_Uses.j0 k a0 (a0 == 8)) else (if a0 = 9 then (budwoodref04_Uses.j0 k a0 (a0 == 9)) else (budwoodref04_Uses.j0 k a0 (a0 == 10)))))))))) = some (r1, r2, r3, r4) := h
  clear h
  by_cases c2 : a0 = 2
  · rw [if_pos c2] at H
    have c2b0 : (a0 == 2) = true := beq_iff_eq.mpr c2
    have c2b1 : (a0 != 2) = false := bne_eq_false_iff_eq.mpr c2
    clear c2
    simp only [Option.some.injEq, Prod.mk.injEq] at H
    obtain ⟨rfl, rfl, rfl, rfl⟩ := H
    go_enter Try.func48, Try.ntmps48
    go_wp2_with (first | ((with_reducible refine gate_dst (N := 2) rfl ?_); refine zX (N := 2) (cs := #[.bool false, .bool false, .bool false, .bool false]) (t := 91) ?_ ?_; (focus first | (go_simp; done) | (go_simp; rfl)); intro gb241 hg w3 hbox hb; have BK241 := Aside0.mk (hbox); have GW241 := Aside0.mk (zS hg : w.heap.size ≤ gb241); have GE241 := Aside0.mk (zS hg : w.heap.size ≤ gb241); replace HB := Aside0.mk (below_step zB hb); clear hb hbox hg; obtain ⟨hcz4_0, hcz4_1, hcz4_2, hcz4_3⟩ := zc4 BK241; obtain ⟨hfz4_0, hfz4_1, hfz4_2, hfz4_3⟩ := zf4 BK241))
    refine bodyPost_ret (results_cell_row rfl _ _ gb241 91 #[.bool true, .bool false, .bool false, .bool true] (0, 0) _ rfl (by (with_reducible repeat (first | refine blk_drewN ?_ _ | refine blk_drew ?_ | refine blk_alloc ?_ _)); refine blk_put (cs := #[.bool true, .bool false, .bool false, .bool false]) ?_ 3 _ rfl; (with_reducible repeat (first | refine blk_drewN ?_ _ | refine blk_drew ?_ | refine blk_alloc ?_ _)); refine blk_put (cs := #[.bool true, .bool false, .bool false, .bool false]) ?_ 2 _ rfl; (with_reducible repeat (first | refine blk_drewN ?_ _ | refine blk_drew ?_ | refine blk_alloc ?_ _)); refine blk_put (cs := #[.bool true, .bool false, .bool false, .bool false]) ?_ 1 _ rfl; (with_reducible repeat (first | refine blk_drewN ?_ _ | refine blk_drew ?_ | refine blk_alloc ?_ _)); refine blk_put (cs := #[.bool false, .bool false, .bool false, .bool false]) ?_ 0 _ rfl; (with_reducible repeat (first | refine blk_drewN ?_ _ | refine blk_drew ?_ | refine blk_alloc ?_ _)); exact BK241.out) Try.underlying91 rfl (by kernel_rfl)) rfl ?_
    exact ⟨zF, zB⟩
  · rw [if_neg c2] at H
    have c2b0 : (a0 == 2) = false := beq_eq_false_iff_ne.mpr c2
    have c2b1 : (a0 != 2) = true := bne_iff_ne.mpr c2
    have HC5 := Aside0.mk H
    clear H
    go_enter Try.func48, Try.ntmps48
    go_upto_if 7 with (first | ((with_reducible refine gate_dst (N := 2) rfl ?_); refine zX (N := 2) (cs := #[.bool false, .bool false, .bool false, .bool false]) (t := 91) ?_ ?_; (focus first | (go_simp; done) | (go_simp; rfl)); intro gb241 hg w6 hbox hb; have BK241 := Aside0.mk (hbox); have GW241 := Aside0.mk (zS hg : w.heap.size ≤ gb241); have GE241 := Aside0.mk (zS hg : w.heap.size ≤ gb241); replace HB := Aside0.mk (below_step zB hb); clear hb hbox hg))
    (try simp only [Act.put, List.setIfInBounds_toArray, List.set_cons_zero, List.set_cons_succ])
    go_cut [7] (fun v7 wc => ∃ (kq : Nat) (x7_4 : Bool), v7 = .bool x7_4 ∧ Aside0 (budwoodref04_Uses.j0 kq a0 x7_4 = some (r1, r2, r3, r4)) ∧ Aside0 (kq ≤ k) ∧ Aside0 (wc.heap[gb241]? = some (.cells #[.bool false, .bool false, .bool false, .bool false] 91 (0, 0))) ∧ Aside0 (Below w.heap.size w wc))
    case first =>
      have H := HC5.out
      clear HC5
      by_cases c7 : a0 = 3
      · rw [if_pos c7] at H
        have c7b0 : (a0 == 3) = true := beq_iff_eq.mpr c7
        have c7b1 : (a0 != 3) = false := bne_eq_false_iff_eq.mpr c7
        clear c7
        (first | rw [c7b0] | (simp only [i64_w, i32_w]; rw [c7b0]) | skip)
        have H' := Aside0.mk H
        clear H
        go_wp2
        go_meet
        case rel => exact ⟨_, ((a0 == 3)), (zE), H', ⟨by first | omega | exact Nat.le_refl _⟩, ⟨zK⟩, ⟨zB⟩⟩
      · rw [if_neg c7] at H
        have c7b0 : (a0 == 3) = false := beq_eq_false_iff_ne.mpr c7
        have c7b1 : (a0 != 3) = true := bne_iff_ne.mpr c7
        (first | rw [c7b0] | (simp only [i64_w, i32_w]; rw [c7b0]) | skip)
        by_cases c8 : a0 = 4
        · rw [if_pos c8] at H
          have c8b0 : (a0 == 4) = true := beq_iff_eq.mpr c8
          have c8b1 : (a0 != 4) = false := bne_eq_false_iff_eq.mpr c8
          clear c8
          have H' := Aside0.mk H
          clear H
          go_wp2
          go_meet
          case rel => exact ⟨_, ((a0 == 4)), (zE), H', ⟨by first | omega | exact Nat.le_refl _⟩, ⟨zK⟩, ⟨zB⟩⟩
        · rw [if_neg c8] at H
          have c8b0 : (a0 == 4) = false := beq_eq_false_iff_ne.mpr c8
          have c8b1 : (a0 != 4) = true := bne_iff_ne.mpr c8
          by_cases c9 : a0 = 5
          · rw [if_pos c9] at H
            have c9b0 : (a0 == 5) = true := beq_iff_eq.mpr c9
            have c9b1 : (a0 != 5) = false := bne_eq_false_iff_eq.mpr c9
            clear c9
            have H' := Aside0.mk H
            clear H
            go_wp2
            go_meet
            case rel => exact ⟨_, ((a0 == 5)), (zE), H', ⟨by first | omega | exact Nat.le_refl _⟩, ⟨zK⟩, ⟨zB⟩⟩
          · rw [if_neg c9] at H
            have c9b0 : (a0 == 5) = false := beq_eq_false_iff_ne.mpr c9
            have c9b1 : (a0 != 5) = true := bne_iff_ne.mpr c9
            by_cases c10 : a0 = 6
            · rw [if_pos c10] at H
              have c10b0 : (a0 == 6) = true := beq_iff_eq.mpr c10
              have c10b1 : (a0 != 6) = false := bne_eq_false_iff_eq.mpr c10
              clear c10
              have H' := Aside0.mk H
              clear H
              go_wp2
              go_meet
              case rel => exact ⟨_, ((a0 == 6)), (zE), H', ⟨by first | omega | exact Nat.le_refl _⟩, ⟨zK⟩, ⟨zB⟩⟩
            · rw [if_neg c10] at H
              have c10b0 : (a0 == 6) = false := beq_eq_false_iff_ne.mpr c10
              have c10b1 : (a0 != 6) = true := bne_iff_ne.mpr c10
              by_cases c11 : a0 = 7
              · rw [if_pos c11] at H
                have c11b0 : (a0 == 7) = true := beq_iff_eq.mpr c11
                have c11b1 : (a0 != 7) = false := bne_eq_false_iff_eq.mpr c11
                clear c11
                have H' := Aside0.mk H
                clear H
                go_wp2
                go_meet
                case rel => exact ⟨_, ((a0 == 7)), (zE), H', ⟨by first | omega | exact Nat.le_refl _⟩, ⟨zK⟩, ⟨zB⟩⟩
              · rw [if_neg c11] at H
                have c11b0 : (a0 == 7) = false := beq_eq_false_iff_ne.mpr c11
                have c11b1 : (a0 != 7) = true := bne_iff_ne.mpr c11
                by_cases c12 : a0 = 8
                · rw [if_pos c12] at H
                  have c12b0 : (a0 == 8) = true := beq_iff_eq.mpr c12
                  have c12b1 : (a0 != 8) = false := bne_eq_false_iff_eq.mpr c12
                  clear c12
                  have H' := Aside0.mk H
                  clear H
                  go_wp2
                  go_meet
                  case rel => exact ⟨_, ((a0 == 8)), (zE), H', ⟨by first | omega | exact Nat.le_refl _⟩, ⟨zK⟩, ⟨zB⟩⟩
                · rw [if_neg c12] at H
                  have c12b0 : (a0 == 8) = false := beq_eq_false_iff_ne.mpr c12
                  have c12b1 : (a0 != 8) = true := bne_iff_ne.mpr c12
                  by_cases c13 : a0 = 9
                  · rw [if_pos c13] at H
                    have c13b0 : (a0 == 9) = true := beq_iff_eq.mpr c13
                    have c13b1 : (a0 != 9) = false := bne_eq_false_iff_eq.mpr c13
                    clear c13
                    have H' := Aside0.mk H
                    clear H
                    go_wp2
                    go_meet
                    case rel => exact ⟨_, ((a0 == 9)), (zE), H', ⟨by first | omega | exact Nat.le_refl _⟩, ⟨zK⟩, ⟨zB⟩⟩
                  · rw [if_neg c13] at H
                    have c13b0 : (a0 == 9) = false := beq_eq_false_iff_ne.mpr c13
                    have c13b1 : (a0 != 9) = true := bne_iff_ne.mpr c13
                    have H' := Aside0.mk H
                    clear H
                    go_wp2
                    go_meet
                    case rel => exact ⟨_, ((a0 == 10)), (zE), H', ⟨by first | omega | exact Nat.le_refl _⟩, ⟨zK⟩, ⟨zB⟩⟩
    case rest =>
      clear HC5
      try clear c1
      try clear c2
      try clear c2b0
      try clear c2b1
      try clear p2
      try clear c4
      try clear c7
      try clear c7b0
      try clear c7b1
      try clear c8
      try clear c8b0
      try clear c8b1
      try clear c9
      try clear c9b0
      try clear c9b1
      try clear c10
      try clear c10b0
      try clear c10b1
      try clear c11
      try clear c11b0
      try clear c11b1
      try clear c12
      try clear c12b0
      try clear c12b1
      try clear c13
      try clear c13b0
      try clear c13b1
      try clear hcz4_0 hcz4_1 hcz4_2 hcz4_3
      try clear hfz4_0 hfz4_1 hfz4_2 hfz4_3
      obtain ⟨kq, x7_4, rfl, HA, HJ4, BK241, HB⟩ := hcut
      cases kq with
      | zero => exact absurd HA.out (by simp [budwoodref04_Uses.j0])
      | succ kj4 =>
        have H := HA.out
        clear HA
        simp only [budwoodref04_Uses.j0] at H
        by_cases c14 : x7_4 = true
        · subst c14
          replace H := zT H
          simp only [Option.some.injEq, Prod.mk.injEq] at H
          obtain ⟨rfl, rfl, rfl, rfl⟩ := H
          obtain ⟨hcz15_0, hcz15_1, hcz15_2, hcz15_3⟩ := zc4 BK241
          obtain ⟨hfz15_0, hfz15_1, hfz15_2, hfz15_3⟩ := zf4 BK241
          go_wp2
          refine bodyPost_ret (results_cell_row rfl _ _ gb241 91 #[.bool true, .bool true, .bool true, .bool false] (0, 0) _ rfl (by (with_reducible repeat (first | refine blk_drewN ?_ _ | refine blk_drew ?_ | refine blk_alloc ?_ _)); refine blk_put (cs := #[.bool true, .bool true, .bool true, .bool false]) ?_ 3 _ rfl; (with_reducible repeat (first | refine blk_drewN ?_ _ | refine blk_drew ?_ | refine blk_alloc ?_ _)); refine blk_put (cs := #[.bool true, .bool true, .bool false, .bool false]) ?_ 2 _ rfl; (with_reducible repeat (first | refine blk_drewN ?_ _ | refine blk_drew ?_ | refine blk_alloc ?_ _)); refine blk_put (cs := #[.bool true, .bool false, .bool false, .bool false]) ?_ 1 _ rfl; (with_reducible repeat (first | refine blk_drewN ?_ _ | refine blk_drew ?_ | refine blk_alloc ?_ _)); refine blk_put (cs := #[.bool false, .bool false, .bool false, .bool false]) ?_ 0 _ rfl; (with_reducible repeat (first | refine blk_drewN ?_ _ | refine blk_drew ?_ | refine blk_alloc ?_ _)); exact BK241.out) Try.underlying91 rfl (by kernel_rfl)) rfl ?_
          exact ⟨zF, zB⟩
        · replace c14 := Bool.eq_false_iff.mpr c14
          subst c14
          replace H := zU H
          have HC16 := Aside0.mk H
          clear H
          go_upto_if 17 with (fail)
          go_cut [17] (fun v17 wc => ∃ (kq : Nat) (x17_15 : Bool), v17 = .bool x17_15 ∧ Aside0 (budwoodref04_Uses.j1 kq a0 x17_15 = some (r1, r2, r3, r4)) ∧ Aside0 (kq ≤ kj4) ∧ Aside0 (wc.heap[gb241]? = some (.cells #[.bool false, .bool false, .bool false, .bool false] 91 (0, 0))) ∧ Aside0 (Below w.heap.size w wc))
          case first =>
            have H := HC16.out
            clear HC16
            by_cases c17 : a0 = 11
            · rw [if_pos c17] at H
              have c17b0 : (a0 == 11) = true := beq_iff_eq.mpr c17
              have c17b1 : (a0 != 11) = false := bne_eq_false_iff_eq.mpr c17
              clear c17
              (first | rw [c17b0] | (simp only [i64_w, i32_w]; rw [c17b0]) | skip)
              have H' := Aside0.mk H
              clear H
              go_wp2
              go_meet
              case rel => exact ⟨_, ((a0 == 11)), (zE), H', ⟨by have := HJ4.out; first | omega | exact Nat.le_refl _⟩, ⟨zK⟩, ⟨zB⟩⟩
            · rw [if_neg c17] at H
              have c17b0 : (a0 == 11) = false := beq_eq_false_iff_ne.mpr c17
              have c17b1 : (a0 != 11) = true := bne_iff_ne.mpr c17
              (first | rw [c17b0] | (simp only [i64_w, i32_w]; rw [c17b0]) | skip)
              by_cases c18 : a0 = 12
              · rw [if_pos c18] at H
                have c18b0 : (a0 == 12) = true := beq_iff_eq.mpr c18
                have c18b1 : (a0 != 12) = false := bne_eq_false_iff_eq.mpr c18
                clear c18
                have H' := Aside0.mk H
                clear H
                go_wp2
                go_meet
                case rel => exact ⟨_, ((a0 == 12)), (zE), H', ⟨by have := HJ4.out; first | omega | exact Nat.le_refl _⟩, ⟨zK⟩, ⟨zB⟩⟩
              · rw [if_neg c18] at H
                have c18b0 : (a0 == 12) = false := beq_eq_false_iff_ne.mpr c18
                have c18b1 : (a0 != 12) = true := bne_iff_ne.mpr c18
                by_cases c19 : a0 = 13
                · rw [if_pos c19] at H
                  have c19b0 : (a0 == 13) = true := beq_iff_eq.mpr c19
                  have c19b1 : (a0 != 13) = false := bne_eq_false_iff_eq.mpr c19
                  clear c19
                  have H' := Aside0.mk H
                  clear H
                  go_wp2
                  go_meet
                  case rel => exact ⟨_, ((a0 == 13)), (zE), H', ⟨by have := HJ4.out; first | omega | exact Nat.le_refl _⟩, ⟨zK⟩, ⟨zB⟩⟩
                · rw [if_neg c19] at H
                  have c19b0 : (a0 == 13) = false := beq_eq_false_iff_ne.mpr c19
                  have c19b1 : (a0 != 13) = true := bne_iff_ne.mpr c19
                  by_cases c20 : a0 = 15
                  · rw [if_pos c20] at H
                    have c20b0 : (a0 == 15) = true := beq_iff_eq.mpr c20
                    have c20b1 : (a0 != 15) = false := bne_eq_false_iff_eq.mpr c20
                    clear c20
                    have H' := Aside0.mk H
                    clear H
                    go_wp2
                    go_meet
                    case rel => exact ⟨_, ((a0 == 15)), (zE), H', ⟨by have := HJ4.out; first | omega | exact Nat.le_refl _⟩, ⟨zK⟩, ⟨zB⟩⟩
                  · rw [if_neg c20] at H
                    have c20b0 : (a0 == 15) = false := beq_eq_false_iff_ne.mpr c20
                    have c20b1 : (a0 != 15) = true := bne_iff_ne.mpr c20
                    have H' := Aside0.mk H
                    clear H
                    go_wp2
                    go_meet
                    case rel => exact ⟨_, ((a0 == 16)), (zE), H', ⟨by have := HJ4.out; first | omega | exact Nat.le_refl _⟩, ⟨zK⟩, ⟨zB⟩⟩
          case rest =>
            clear HC16
            try clear c1
            try clear c2
            try clear c2b0
            try clear c2b1
            try clear p2
            try clear c4
            try clear c7
            try clear c7b0
            try clear c7b1
            try clear c8
            try clear c8b0
            try clear c8b1
            try clear c9
            try clear c9b0
            try clear c9b1
            try clear c10
            try clear c10b0
            try clear c10b1
            try clear c11
            try clear c11b0
            try clear c11b1
            try clear c12
            try clear c12b0
            try clear c12b1
            try clear c13
            try clear c13b0
            try clear c13b1
            try clear c14
            try clear c17
            try clear c17b0
            try clear c17b1
            try clear c18
            try clear c18b0
            try clear c18b1
            try clear c19
            try clear c19b0
            try clear c19b1
            try clear c20
            try clear c20b0
            try clear c20b1
            try clear hcz15_0 hcz15_1 hcz15_2 hcz15_3
            try clear hcz4_0 hcz4_1 hcz4_2 hcz4_3
            try clear hfz15_0 hfz15_1 hfz15_2 hfz15_3
            try clear hfz4_0 hfz4_1 hfz4_2 hfz4_3
            try clear p2
            obtain ⟨kq, x17_15, rfl, HA, HJ15, BK241, HB⟩ := hcut
            cases kq with
            | zero => exact absurd HA.out (by simp [budwoodref04_Uses.j1])
            | succ kj15 =>
              have H := HA.out
              clear HA
              simp only [budwoodref04_Uses.j1] at H
              by_cases c21 : x17_15 = true
              · subst c21
                replace H := zT H
                simp only [Option.some.injEq, Prod.mk.injEq] at H
                obtain ⟨rfl, rfl, rfl, rfl⟩ := H
                obtain ⟨hcz22_0, hcz22_1, hcz22_2, hcz22_3⟩ := zc4 BK241
                obtain ⟨hfz22_0, hfz22_1, hfz22_2, hfz22_3⟩ := zf4 BK241
                go_wp2
                refine bodyPost_ret (results_cell_row rfl _ _ gb241 91 #[.bool true, .bool true, .bool false, .bool true] (0, 0) _ rfl (by (with_reducible repeat (first | refine blk_drewN ?_ _ | refine blk_drew ?_ | refine blk_alloc ?_ _)); refine blk_put (cs := #[.bool true, .bool true, .bool false, .bool false]) ?_ 3 _ rfl; (with_reducible repeat (first | refine blk_drewN ?_ _ | refine blk_drew ?_ | refine blk_alloc ?_ _)); refine blk_put (cs := #[.bool true, .bool true, .bool false, .bool false]) ?_ 2 _ rfl; (with_reducible repeat (first | refine blk_drewN ?_ _ | refine blk_drew ?_ | refine blk_alloc ?_ _)); refine blk_put (cs := #[.bool true, .bool false, .bool false, .bool false]) ?_ 1 _ rfl; (with_reducible repeat (first | refine blk_drewN ?_ _ | refine blk_drew ?_ | refine blk_alloc ?_ _)); refine blk_put (cs := #[.bool false, .bool false, .bool false, .bool false]) ?_ 0 _ rfl; (with_reducible repeat (first | refine blk_drewN ?_ _ | refine blk_drew ?_ | refine blk_alloc ?_ _)); exact BK241.out) Try.underlying91 rfl (by kernel_rfl)) rfl ?_
                exact ⟨zF, zB⟩
              · replace c21 := Bool.eq_false_iff.mpr c21
                subst c21
                replace H := zU H
                have HC23 := Aside0.mk H
                clear H
                go_upto_if 24 with (fail)
                go_cut [24] (fun v24 wc => ∃ (kq : Nat) (x24_22 : Bool), v24 = .bool x24_22 ∧ Aside0 (budwoodref04_Uses.j2 kq a0 x24_22 = some (r1, r2, r3, r4)) ∧ Aside0 (kq ≤ kj15) ∧ Aside0 (wc.heap[gb241]? = some (.cells #[.bool false, .bool false, .bool false, .bool false] 91 (0, 0))) ∧ Aside0 (Below w.heap.size w wc))
                case first =>
                  have H := HC23.out
                  clear HC23
                  by_cases c24 : a0 = 14
                  · rw [if_pos c24] at H
                    have c24b0 : (a0 == 14) = true := beq_iff_eq.mpr c24
                    have c24b1 : (a0 != 14) = false := bne_eq_false_iff_eq.mpr c24
                    clear c24
                    (first | rw [c24b0] | (simp only [i64_w, i32_w]; rw [c24b0]) | skip)
                    have H' := Aside0.mk H
                    clear H
                    go_wp2
                    go_meet
                    case rel => exact ⟨_, ((a0 == 14)), (zE), H', ⟨by have := HJ4.out; have := HJ15.out; first | omega | exact Nat.le_refl _⟩, ⟨zK⟩, ⟨zB⟩⟩
                  · rw [if_neg c24] at H
                    have c24b0 : (a0 == 14) = false := beq_eq_false_iff_ne.mpr c24
                    have c24b1 : (a0 != 14) = true := bne_iff_ne.mpr c24
                    (first | rw [c24b0] | (simp only [i64_w, i32_w]; rw [c24b0]) | skip)
                    by_cases c25 : a0 = 17
                    · rw [if_pos c25] at H
                      have c25b0 : (a0 == 17) = true := beq_iff_eq.mpr c25
                      have c25b1 : (a0 != 17) = false := bne_eq_false_iff_eq.mpr c25
                      clear c25
                      have H' := Aside0.mk H
                      clear H
                      go_wp2
                      go_meet
                      case rel => exact ⟨_, ((a0 == 17)), (zE), H', ⟨by have := HJ4.out; have := HJ15.out; first | omega | exact Nat.le_refl _⟩, ⟨zK⟩, ⟨zB⟩⟩
                    · rw [if_neg c25] at H
                      have c25b0 : (a0 == 17) = false := beq_eq_false_iff_ne.mpr c25
                      have c25b1 : (a0 != 17) = true := bne_iff_ne.mpr c25
                      have H' := Aside0.mk H
                      clear H
                      go_wp2
                      go_meet
                      case rel => exact ⟨_, ((a0 == 21)), (zE), H', ⟨by have := HJ4.out; have := HJ15.out; first | omega | exact Nat.le_refl _⟩, ⟨zK⟩, ⟨zB⟩⟩
                case rest =>
                  clear HC23
                  try clear c1
                  try clear c2
                  try clear c2b0
                  try clear c2b1
                  try clear p2
                  try clear c4
                  try clear c7
                  try clear c7b0
                  try clear c7b1
                  try clear c8
                  try clear c8b0
                  try clear c8b1
                  try clear c9
                  try clear c9b0
                  try clear c9b1
                  try clear c10
                  try clear c10b0
                  try clear c10b1
                  try clear c11
                  try clear c11b0
                  try clear c11b1
                  try clear c12
                  try clear c12b0
                  try clear c12b1
                  try clear c13
                  try clear c13b0
                  try clear c13b1
                  try clear c14
                  try clear c17
                  try clear c17b0
                  try clear c17b1
                  try clear c18
                  try clear c18b0
                  try clear c18b1
                  try clear c19
                  try clear c19b0
                  try clear c19b1
                  try clear c20
                  try clear c20b0
                  try clear c20b1
                  try clear c21
                  try clear c24
                  try clear c24b0
                  try clear c24b1
                  try clear c25
                  try clear c25b0
                  try clear c25b1
                  try clear hcz15_0 hcz15_1 hcz15_2 hcz15_3
                  try clear hcz22_0 hcz22_1 hcz22_2 hcz22_3
                  try clear hcz4_0 hcz4_1 hcz4_2 hcz4_3
                  try clear hfz15_0 hfz15_1 hfz15_2 hfz15_3
                  try clear hfz22_0 hfz22_1 hfz22_2 hfz22_3
                  try clear hfz4_0 hfz4_1 hfz4_2 hfz4_3
                  try clear p2
                  obtain ⟨kq, x24_22, rfl, HA, HJ22, BK241, HB⟩ := hcut
                  cases kq with
                  | zero => exact absurd HA.out (by simp [budwoodref04_Uses.j2])
                  | succ kj22 =>
                    have H := HA.out
                    clear HA
                    simp only [budwoodref04_Uses.j2] at H
                    by_cases c26 : x24_22 = true
                    · subst c26
                      replace H := zT H
                      simp only [Option.some.injEq, Prod.mk.injEq] at H
                      obtain ⟨rfl, rfl, rfl, rfl⟩ := H
                      obtain ⟨hcz27_0, hcz27_1, hcz27_2, hcz27_3⟩ := zc4 BK241
                      obtain ⟨hfz27_0, hfz27_1, hfz27_2, hfz27_3⟩ := zf4 BK241
                      go_wp2
                      refine bodyPost_ret (results_cell_row rfl _ _ gb241 91 #[.bool false, .bool false, .bool false, .bool true] (0, 0) _ rfl (by (with_reducible repeat (first | refine blk_drewN ?_ _ | refine blk_drew ?_ | refine blk_alloc ?_ _)); refine blk_put (cs := #[.bool false, .bool false, .bool false, .bool false]) ?_ 3 _ rfl; (with_reducible repeat (first | refine blk_drewN ?_ _ | refine blk_drew ?_ | refine blk_alloc ?_ _)); refine blk_put (cs := #[.bool false, .bool false, .bool false, .bool false]) ?_ 2 _ rfl; (with_reducible repeat (first | refine blk_drewN ?_ _ | refine blk_drew ?_ | refine blk_alloc ?_ _)); refine blk_put (cs := #[.bool false, .bool false, .bool false, .bool false]) ?_ 1 _ rfl; (with_reducible repeat (first | refine blk_drewN ?_ _ | refine blk_drew ?_ | refine blk_alloc ?_ _)); refine blk_put (cs := #[.bool false, .bool false, .bool false, .bool false]) ?_ 0 _ rfl; (with_reducible repeat (first | refine blk_drewN ?_ _ | refine blk_drew ?_ | refine blk_alloc ?_ _)); exact BK241.out) Try.underlying91 rfl (by kernel_rfl)) rfl ?_
                      exact ⟨zF, zB⟩
                    · replace c26 := Bool.eq_false_iff.mpr c26
                      subst c26
                      replace H := zU H
                      by_cases c28 : a0 = 19
                      · rw [if_pos c28] at H
                        have c28b0 : (a0 == 19) = true := beq_iff_eq.mpr c28
                        have c28b1 : (a0 != 19) = false := bne_eq_false_iff_eq.mpr c28
                        clear c28
                        simp only [Option.some.injEq, Prod.mk.injEq] at H
                        obtain ⟨rfl, rfl, rfl, rfl⟩ := H
                        obtain ⟨hcz29_0, hcz29_1, hcz29_2, hcz29_3⟩ := zc4 BK241
                        obtain ⟨hfz29_0, hfz29_1, hfz29_2, hfz29_3⟩ := zf4 BK241
                        go_wp2
                        refine bodyPost_ret (results_cell_row rfl _ _ gb241 91 #[.bool false, .bool true, .bool false, .bool false] (0, 0) _ rfl (by (with_reducible repeat (first | refine blk_drewN ?_ _ | refine blk_drew ?_ | refine blk_alloc ?_ _)); refine blk_put (cs := #[.bool false, .bool true, .bool false, .bool false]) ?_ 3 _ rfl; (with_reducible repeat (first | refine blk_drewN ?_ _ | refine blk_drew ?_ | refine blk_alloc ?_ _)); refine blk_put (cs := #[.bool false, .bool true, .bool false, .bool false]) ?_ 2 _ rfl; (with_reducible repeat (first | refine blk_drewN ?_ _ | refine blk_drew ?_ | refine blk_alloc ?_ _)); refine blk_put (cs := #[.bool false, .bool false, .bool false, .bool false]) ?_ 1 _ rfl; (with_reducible repeat (first | refine blk_drewN ?_ _ | refine blk_drew ?_ | refine blk_alloc ?_ _)); refine blk_put (cs := #[.bool false, .bool false, .bool false, .bool false]) ?_ 0 _ rfl; (with_reducible repeat (first | refine blk_drewN ?_ _ | refine blk_drew ?_ | refine blk_alloc ?_ _)); exact BK241.out) Try.underlying91 rfl (by kernel_rfl)) rfl ?_
                        exact ⟨zF, zB⟩
                      · rw [if_neg c28] at H
                        have c28b0 : (a0 == 19) = false := beq_eq_false_iff_ne.mpr c28
                        have c28b1 : (a0 != 19) = true := bne_iff_ne.mpr c28
                        simp only [Option.some.injEq, Prod.mk.injEq] at H
                        obtain ⟨rfl, rfl, rfl, rfl⟩ := H
                        obtain ⟨hcz30_0, hcz30_1, hcz30_2, hcz30_3⟩ := zc4 BK241
                        obtain ⟨hfz30_0, hfz30_1, hfz30_2, hfz30_3⟩ := zf4 BK241
                        go_wp2
                        refine bodyPost_ret (results_cell_row rfl _ _ gb241 91 #[.bool false, .bool false, .bool false, .bool false] (0, 0) _ rfl (by (with_reducible repeat (first | refine blk_drewN ?_ _ | refine blk_drew ?_ | refine blk_alloc ?_ _)); refine blk_put (cs := #[.bool false, .bool false, .bool false, .bool false]) ?_ 3 _ rfl; (with_reducible repeat (first | refine blk_drewN ?_ _ | refine blk_drew ?_ | refine blk_alloc ?_ _)); refine blk_put (cs := #[.bool false, .bool false, .bool false, .bool false]) ?_ 2 _ rfl; (with_reducible repeat (first | refine blk_drewN ?_ _ | refine blk_drew ?_ | refine blk_alloc ?_ _)); refine blk_put (cs := #[.bool false, .bool false, .bool false, .bool false]) ?_ 1 _ rfl; (with_reducible repeat (first | refine blk_drewN ?_ _ | refine blk_drew ?_ | refine blk_alloc ?_ _)); refine blk_put (cs := #[.bool false, .bool false, .bool false, .bool false]) ?_ 0 _ rfl; (with_reducible repeat (first | refine blk_drewN ?_ _ | refine blk_drew ?_ | refine blk_alloc ?_ _)); exact BK241.out) Try.underlying91 rfl (by kernel_rfl)) rfl ?_
                        exact ⟨zF, zB⟩

/-! ### budwoodref01_Fits: function 62 -/
set_option maxHeartbeats 8000000 in
set_option maxRecDepth 100000 in
theorem budwoodref01_Fits.calls (a0 : Int) (a1 : Int) (r : Bool) (w : World) (h : budwoodref01_Fits.f a0 a1 = some r) :
    Calls Try.prog 62 #[.int .i64 a0, .int .i64 a1] w fun e w' => e = .returned (.bool r) ∧ Drawn0 w w' := by
  have H : (if a1 < 1 then (some false) else (if a1 > 32 then (some false) else (if 0 ≤ (IntKind.u64.wrap (wrap64 (a1 - 1))) then (if a0 ≥ (wrap64 (-(shl .i64 1 (IntKind.u64.wrap (wrap64 (a1 - 1)))))) then (some (decide (a0 ≤ (wrap64 ((shl .i64 1 (IntKind.u64.wrap (wrap64 (a1 - 1)))) - 1))))) else (some false)) else (none)))) = some r := h
  clear h
  by_cases c3 : a1 < 1
  · rw [if_pos c3] at H
    have c3b0 : decide (a1 < 1) = true := decide_eq_true c3
    clear c3
    obtain rfl := Option.some.inj H
    go_enter Try.func62, Try.ntmps62
    go_wp2
    go_ret
    exact ⟨zE, zD⟩
  · rw [if_neg c3] at H
    have c3b0 : decide (a1 < 1) = false := decide_eq_false c3
    clear c3
    by_cases c4 : a1 > 32
    · rw [if_pos c4] at H
      have c4b0 : decide (32 < a1) = true := decide_eq_true c4
      clear c4
      obtain rfl := Option.some.inj H
      go_enter Try.func62, Try.ntmps62
      go_wp2
      go_ret
      exact ⟨zE, zD⟩
    · rw [if_neg c4] at H
      have c4b0 : decide (32 < a1) = false := decide_eq_false c4
      clear c4
      obtain ⟨ji5, hji5⟩ : ∃ j_ : Int, (IntKind.u64.wrap (wrap64 (a1 - 1))) = j_ := ⟨_, rfl⟩
      replace H : (if 0 ≤ (ji5) then (if a0 ≥ (wrap64 (-(shl .i64 1 (ji5)))) then (some (decide (a0 ≤ (wrap64 ((shl .i64 1 (ji5)) - 1))))) else (some false)) else (none)) = some r := by first | (rw [hji5] at H; exact H) | (simp only [hji5] at H ⊢; exact H)
      by_cases c6 : 0 ≤ (ji5)
      · rw [if_pos c6] at H
        have c6b0 := eq_true c6
        have c6b1 : decide (0 ≤ (ji5)) = true := decide_eq_true c6
        clear c6
        obtain ⟨ji7, hji7⟩ : ∃ j_ : Int, (shl .i64 1 (ji5)) = j_ := ⟨_, rfl⟩
        replace H : (if a0 ≥ (wrap64 (-(ji7))) then (some (decide (a0 ≤ (wrap64 ((ji7) - 1))))) else (some false)) = some r := by first | (rw [hji7] at H; exact H) | (simp only [hji7] at H ⊢; exact H)
        have hji7_ : (IntKind.i64.wrap (1 * 2 ^ min (ji5).toNat 64)) = ji7 := hji7
        have hji7z : (ji5) ≤ 64 → (IntKind.i64.wrap (1 * 2 ^ (ji5).toNat)) = ji7 := shl_small hji7
        have hji7u : (IntKind.i64.wrap (2 ^ min (ji5).toNat 64)) = ji7 := by have h_ := hji7_; rw [Int.one_mul] at h_; exact h_
        have hji7v : (ji5) ≤ 64 → (IntKind.i64.wrap (2 ^ (ji5).toNat)) = ji7 := fun hle_ => by have h_ := hji7z hle_; rw [Int.one_mul] at h_; exact h_
        have hji7y : (wrap64 (1 * 2 ^ min (ji5).toNat 64)) = ji7 := (i64_w _).symm.trans hji7_
        have hji7x : (ji5) ≤ 64 → (wrap64 (1 * 2 ^ (ji5).toNat)) = ji7 := fun h_ => (i64_w _).symm.trans (hji7z h_)
        by_cases c8 : a0 ≥ (wrap64 (-(ji7)))
        · rw [if_pos c8] at H
          have c8b0 : decide ((wrap64 (-(ji7))) ≤ a0) = true := decide_eq_true c8
          clear c8
          obtain rfl := Option.some.inj H
          go_enter Try.func62, Try.ntmps62
          go_wp2
          go_ret
          exact ⟨by first | rfl | (simp; done) | (simp only [← hji5, ← hji7] <;> (first | rfl | simp)) | (simp [*]; done), zD⟩
        · rw [if_neg c8] at H
          have c8b0 : decide ((wrap64 (-(ji7))) ≤ a0) = false := decide_eq_false c8
          clear c8
          obtain rfl := Option.some.inj H
          go_enter Try.func62, Try.ntmps62
          go_wp2
          go_ret
          exact ⟨by first | rfl | (simp; done) | (simp only [← hji5, ← hji7] <;> (first | rfl | simp)) | (simp [*]; done), zD⟩
      · rw [if_neg c6] at H
        exact absurd H (by simp)

end Go.Proofs.Ytllkloneapjgjaa.P
