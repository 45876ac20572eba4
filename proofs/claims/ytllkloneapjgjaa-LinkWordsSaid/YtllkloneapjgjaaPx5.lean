-- WRITTEN BY bud.py (a program of this session's over the kit's print). Not trusted: Lean checks it.
import Derived.Test.YtllkloneapjgjaaPx0
import Derived.Test.YtllkloneapjgjaaPxf
import Derived.Test.YtllkloneapjgjaaPx4
namespace Go.Proofs.Ytllkloneapjgjaa.P
open Go.RowKit Go.Proofs.YtllkloneapjgjaaW.PrintWords Go.Proofs.YtllkloneapjgjaaW.PrintLast Go.Proofs.YtllkloneapjgjaaW.PrintMore
attribute [local go_sem] max2_int min2_int max_two min_two max_three min_three max_four min_four   -- for this text's walks alone
set_option linter.unusedVariables false
set_option linter.unusedSimpArgs false

/-! ### isa_Uses: function 55 -/
set_option maxHeartbeats 8000000 in
set_option maxRecDepth 100000 in
theorem isa_Uses.calls (k : Nat) (a0 : Int) (r1 : Bool) (r2 : Bool) (r3 : Bool) (r4 : Bool) (w : World) (h : isa_Uses.f k a0 = some (r1, r2, r3, r4)) :
    Calls Try.prog 55 #[.int .u8 a0] w fun e w' => e = .returned (.tuple #[.bool r1, .bool r2, .bool r3, .bool r4]) ∧ Drawn0 w w' := by
  have H : (if a0 ≥ 3 then (isa_Uses.j0 k a0 false false false false (decide (a0 ≤ 10))) else (isa_Uses.j0 k a0 false false false false false)) = some (r1, r2, r3, r4) := h
  clear h
  have HC2 := Aside0.mk H
  clear H
  go_enter Try.func55, Try.ntmps55
  go_upto_region 1 with (fail)
  go_cut [6] (fun v6 wc => ∃ (kq : Nat) (x6_1 : Bool), v6 = .bool x6_1 ∧ Aside0 (isa_Uses.j0 kq a0 false false false false x6_1 = some (r1, r2, r3, r4)) ∧ Aside0 (kq ≤ k) ∧ Drawn0 w wc)
  case first =>
    have H := HC2.out
    clear HC2
    by_cases c3 : a0 ≥ 3
    · rw [if_pos c3] at H
      have c3b0 : decide (3 ≤ a0) = true := decide_eq_true c3
      clear c3
      (first | rw [c3b0] | (simp only [i64_w, i32_w]; rw [c3b0]) | skip)
      have H' := Aside0.mk H
      clear H
      go_wp2
      go_meet
      case rel => exact ⟨_, (decide (a0 ≤ 10)), (zE), H', ⟨by first | omega | exact Nat.le_refl _⟩, zD⟩
    · rw [if_neg c3] at H
      have c3b0 : decide (3 ≤ a0) = false := decide_eq_false c3
      clear c3
      (first | rw [c3b0] | (simp only [i64_w, i32_w]; rw [c3b0]) | skip)
      have H' := Aside0.mk H
      clear H
      go_wp2
      go_meet
      case rel => exact ⟨_, (false), (zE), H', ⟨by first | omega | exact Nat.le_refl _⟩, zD⟩
  case rest =>
    clear HC2
    try clear p2
    try clear c3
    try clear c3b0
    obtain ⟨kq, x6_1, rfl, HA, HJ1, ⟨mc1, rfl⟩⟩ := hcut
    cases kq with
    | zero => exact absurd HA.out (by simp [isa_Uses.j0])
    | succ kj1 =>
      have H := HA.out
      clear HA
      simp only [isa_Uses.j0] at H
      by_cases c4 : x6_1 = true
      · subst c4
        replace H := zT H
        simp only [Option.some.injEq, Prod.mk.injEq] at H
        obtain ⟨rfl, rfl, rfl, rfl⟩ := H
        go_wp2
        refine bodyPost_ret (results_list (rs := [.tmp 2, .tmp 3, .tmp 4, .tmp 5]) rfl (by simp) (.tmp (.tmp (.tmp (.tmp .nil))))) rfl ?_
        exact ⟨zE, zD⟩
      · replace c4 := Bool.eq_false_iff.mpr c4
        subst c4
        replace H := zU H
        by_cases c5 : a0 > 21
        · rw [if_pos c5] at H
          have c5b0 : decide (21 < a0) = true := decide_eq_true c5
          clear c5
          simp only [Option.some.injEq, Prod.mk.injEq] at H
          obtain ⟨rfl, rfl, rfl, rfl⟩ := H
          go_wp2
          refine bodyPost_ret (results_list (rs := [.tmp 2, .tmp 3, .tmp 4, .tmp 5]) rfl (by simp) (.tmp (.tmp (.tmp (.tmp .nil))))) rfl ?_
          exact ⟨zE, zD⟩
        · rw [if_neg c5] at H
          have c5b0 : decide (21 < a0) = false := decide_eq_false c5
          clear c5
          have HC6 := Aside0.mk H
          clear H
          go_upto_if 17 with (fail)
          go_cut [17] (fun v17 wc => ∃ (kq : Nat) (x17_5 : Bool), v17 = .bool x17_5 ∧ Aside0 (isa_Uses.j1 kq false false false false a0 x17_5 = some (r1, r2, r3, r4)) ∧ Aside0 (kq ≤ kj1) ∧ Drawn0 w wc)
          case first =>
            have H := HC6.out
            clear HC6
            by_cases c7 : a0 = 11
            · rw [if_pos c7] at H
              have c7b0 : (a0 == 11) = true := beq_iff_eq.mpr c7
              have c7b1 : (a0 != 11) = false := bne_eq_false_iff_eq.mpr c7
              clear c7
              (first | rw [c7b0] | (simp only [i64_w, i32_w]; rw [c7b0]) | skip)
              have H' := Aside0.mk H
              clear H
              go_wp2
              go_meet
              case rel => exact ⟨_, ((a0 == 11)), (zE), H', ⟨by have := HJ1.out; first | omega | exact Nat.le_refl _⟩, zD⟩
            · rw [if_neg c7] at H
              have c7b0 : (a0 == 11) = false := beq_eq_false_iff_ne.mpr c7
              have c7b1 : (a0 != 11) = true := bne_iff_ne.mpr c7
              (first | rw [c7b0] | (simp only [i64_w, i32_w]; rw [c7b0]) | skip)
              by_cases c8 : a0 = 12
              · rw [if_pos c8] at H
                have c8b0 : (a0 == 12) = true := beq_iff_eq.mpr c8
                have c8b1 : (a0 != 12) = false := bne_eq_false_iff_eq.mpr c8
                clear c8
                have H' := Aside0.mk H
                clear H
                go_wp2
                go_meet
                case rel => exact ⟨_, ((a0 == 12)), (zE), H', ⟨by have := HJ1.out; first | omega | exact Nat.le_refl _⟩, zD⟩
              · rw [if_neg c8] at H
                have c8b0 : (a0 == 12) = false := beq_eq_false_iff_ne.mpr c8
                have c8b1 : (a0 != 12) = true := bne_iff_ne.mpr c8
                by_cases c9 : a0 = 13
                · rw [if_pos c9] at H
                  have c9b0 : (a0 == 13) = true := beq_iff_eq.mpr c9
                  have c9b1 : (a0 != 13) = false := bne_eq_false_iff_eq.mpr c9
                  clear c9
                  have H' := Aside0.mk H
                  clear H
                  go_wp2
                  go_meet
                  case rel => exact ⟨_, ((a0 == 13)), (zE), H', ⟨by have := HJ1.out; first | omega | exact Nat.le_refl _⟩, zD⟩
                · rw [if_neg c9] at H
                  have c9b0 : (a0 == 13) = false := beq_eq_false_iff_ne.mpr c9
                  have c9b1 : (a0 != 13) = true := bne_iff_ne.mpr c9
                  by_cases c10 : a0 = 15
                  · rw [if_pos c10] at H
                    have c10b0 : (a0 == 15) = true := beq_iff_eq.mpr c10
                    have c10b1 : (a0 != 15) = false := bne_eq_false_iff_eq.mpr c10
                    clear c10
                    have H' := Aside0.mk H
                    clear H
                    go_wp2
                    go_meet
                    case rel => exact ⟨_, ((a0 == 15)), (zE), H', ⟨by have := HJ1.out; first | omega | exact Nat.le_refl _⟩, zD⟩
                  · rw [if_neg c10] at H
                    have c10b0 : (a0 == 15) = false := beq_eq_false_iff_ne.mpr c10
                    have c10b1 : (a0 != 15) = true := bne_iff_ne.mpr c10
                    have H' := Aside0.mk H
                    clear H
                    go_wp2
                    go_meet
                    case rel => exact ⟨_, ((a0 == 16)), (zE), H', ⟨by have := HJ1.out; first | omega | exact Nat.le_refl _⟩, zD⟩
          case rest =>
            clear HC6
            try clear c1
            try clear p2
            try clear c3
            try clear c3b0
            try clear c4
            try clear c5
            try clear c5b0
            try clear c7
            try clear c7b0
            try clear c7b1
            try clear c8
            try clear c8b0
            try clear c8b1
            try clear c9
            try clear c9b0
            try clear c9b1
            try clear c10
            try clear c10b0
            try clear c10b1
            try clear p2
            obtain ⟨kq, x17_5, rfl, HA, HJ5, ⟨mc5, rfl⟩⟩ := hcut
            cases kq with
            | zero => exact absurd HA.out (by simp [isa_Uses.j1])
            | succ kj5 =>
              have H := HA.out
              clear HA
              simp only [isa_Uses.j1] at H
              by_cases c11 : x17_5 = true
              · subst c11
                replace H := zT H
                simp only [Option.some.injEq, Prod.mk.injEq] at H
                obtain ⟨rfl, rfl, rfl, rfl⟩ := H
                go_wp2
                refine bodyPost_ret (results_list (rs := [.tmp 2, .tmp 3, .tmp 4, .tmp 5]) rfl (by simp) (.tmp (.tmp (.tmp (.tmp .nil))))) rfl ?_
                exact ⟨zE, zD⟩
              · replace c11 := Bool.eq_false_iff.mpr c11
                subst c11
                replace H := zU H
                by_cases c12 : a0 = 2
                · rw [if_pos c12] at H
                  have c12b0 : (a0 == 2) = true := beq_iff_eq.mpr c12
                  have c12b1 : (a0 != 2) = false := bne_eq_false_iff_eq.mpr c12
                  clear c12
                  simp only [Option.some.injEq, Prod.mk.injEq] at H
                  obtain ⟨rfl, rfl, rfl, rfl⟩ := H
                  go_wp2
                  refine bodyPost_ret (results_list (rs := [.tmp 2, .tmp 3, .tmp 4, .tmp 5]) rfl (by simp) (.tmp (.tmp (.tmp (.tmp .nil))))) rfl ?_
                  exact ⟨zE, zD⟩
                · rw [if_neg c12] at H
                  have c12b0 : (a0 == 2) = false := beq_eq_false_iff_ne.mpr c12
                  have c12b1 : (a0 != 2) = true := bne_iff_ne.mpr c12
                  have HC13 := Aside0.mk H
                  clear H
                  go_upto_if 25 with (fail)
                  go_cut [25] (fun v25 wc => ∃ (kq : Nat) (x25_12 : Bool), v25 = .bool x25_12 ∧ Aside0 (isa_Uses.j2 kq false false false false a0 x25_12 = some (r1, r2, r3, r4)) ∧ Aside0 (kq ≤ kj5) ∧ Drawn0 w wc)
                  case first =>
                    have H := HC13.out
                    clear HC13
                    by_cases c14 : a0 = 14
                    · rw [if_pos c14] at H
                      have c14b0 : (a0 == 14) = true := beq_iff_eq.mpr c14
                      have c14b1 : (a0 != 14) = false := bne_eq_false_iff_eq.mpr c14
                      clear c14
                      (first | rw [c14b0] | (simp only [i64_w, i32_w]; rw [c14b0]) | skip)
                      have H' := Aside0.mk H
                      clear H
                      go_wp2
                      go_meet
                      case rel => exact ⟨_, ((a0 == 14)), (zE), H', ⟨by have := HJ1.out; have := HJ5.out; first | omega | exact Nat.le_refl _⟩, zD⟩
                    · rw [if_neg c14] at H
                      have c14b0 : (a0 == 14) = false := beq_eq_false_iff_ne.mpr c14
                      have c14b1 : (a0 != 14) = true := bne_iff_ne.mpr c14
                      (first | rw [c14b0] | (simp only [i64_w, i32_w]; rw [c14b0]) | skip)
                      by_cases c15 : a0 = 17
                      · rw [if_pos c15] at H
                        have c15b0 : (a0 == 17) = true := beq_iff_eq.mpr c15
                        have c15b1 : (a0 != 17) = false := bne_eq_false_iff_eq.mpr c15
                        clear c15
                        have H' := Aside0.mk H
                        clear H
                        go_wp2
                        go_meet
                        case rel => exact ⟨_, ((a0 == 17)), (zE), H', ⟨by have := HJ1.out; have := HJ5.out; first | omega | exact Nat.le_refl _⟩, zD⟩
                      · rw [if_neg c15] at H
                        have c15b0 : (a0 == 17) = false := beq_eq_false_iff_ne.mpr c15
                        have c15b1 : (a0 != 17) = true := bne_iff_ne.mpr c15
                        have H' := Aside0.mk H
                        clear H
                        go_wp2
                        go_meet
                        case rel => exact ⟨_, ((a0 == 21)), (zE), H', ⟨by have := HJ1.out; have := HJ5.out; first | omega | exact Nat.le_refl _⟩, zD⟩
                  case rest =>
                    clear HC13
                    try clear c1
                    try clear p2
                    try clear c3
                    try clear c3b0
                    try clear c4
                    try clear c5
                    try clear c5b0
                    try clear c7
                    try clear c7b0
                    try clear c7b1
                    try clear c8
                    try clear c8b0
                    try clear c8b1
                    try clear c9
                    try clear c9b0
                    try clear c9b1
                    try clear c10
                    try clear c10b0
                    try clear c10b1
                    try clear c11
                    try clear c12
                    try clear c12b0
                    try clear c12b1
                    try clear c14
                    try clear c14b0
                    try clear c14b1
                    try clear c15
                    try clear c15b0
                    try clear c15b1
                    try clear p2
                    obtain ⟨kq, x25_12, rfl, HA, HJ12, ⟨mc12, rfl⟩⟩ := hcut
                    cases kq with
                    | zero => exact absurd HA.out (by simp [isa_Uses.j2])
                    | succ kj12 =>
                      have H := HA.out
                      clear HA
                      simp only [isa_Uses.j2] at H
                      by_cases c16 : x25_12 = true
                      · subst c16
                        replace H := zT H
                        simp only [Option.some.injEq, Prod.mk.injEq] at H
                        obtain ⟨rfl, rfl, rfl, rfl⟩ := H
                        go_wp2
                        refine bodyPost_ret (results_list (rs := [.tmp 2, .tmp 3, .tmp 4, .tmp 5]) rfl (by simp) (.tmp (.tmp (.tmp (.tmp .nil))))) rfl ?_
                        exact ⟨zE, zD⟩
                      · replace c16 := Bool.eq_false_iff.mpr c16
                        subst c16
                        replace H := zU H
                        by_cases c17 : a0 = 19
                        · rw [if_pos c17] at H
                          have c17b0 : (a0 == 19) = true := beq_iff_eq.mpr c17
                          have c17b1 : (a0 != 19) = false := bne_eq_false_iff_eq.mpr c17
                          clear c17
                          simp only [Option.some.injEq, Prod.mk.injEq] at H
                          obtain ⟨rfl, rfl, rfl, rfl⟩ := H
                          go_wp2
                          refine bodyPost_ret (results_list (rs := [.tmp 2, .tmp 3, .tmp 4, .tmp 5]) rfl (by simp) (.tmp (.tmp (.tmp (.tmp .nil))))) rfl ?_
                          exact ⟨zE, zD⟩
                        · rw [if_neg c17] at H
                          have c17b0 : (a0 == 19) = false := beq_eq_false_iff_ne.mpr c17
                          have c17b1 : (a0 != 19) = true := bne_iff_ne.mpr c17
                          simp only [Option.some.injEq, Prod.mk.injEq] at H
                          obtain ⟨rfl, rfl, rfl, rfl⟩ := H
                          go_wp2
                          refine bodyPost_ret (results_list (rs := [.tmp 2, .tmp 3, .tmp 4, .tmp 5]) rfl (by simp) (.tmp (.tmp (.tmp (.tmp .nil))))) rfl ?_
                          exact ⟨zE, zD⟩

/-! ### isa_Check_1: function 57 -/
set_option maxHeartbeats 8000000 in
set_option maxRecDepth 100000 in
theorem isa_Check_1.calls (a0 : Int) (a1 : Bool) (r : Bool) (w : World) (h : isa_Check_1.f a0 a1 = some r) :
    Calls Try.prog 57 #[.int .u8 a0, .bool a1] w fun e w' => e = .returned (.bool r) ∧ Drawn0 w w' := by
  have H : (if a0 = 0 then (some true) else (if a1 = true then (some (decide (a0 < 8))) else (some false))) = some r := h
  clear h
  by_cases c3 : a0 = 0
  · rw [if_pos c3] at H
    have c3b0 : (a0 == 0) = true := beq_iff_eq.mpr c3
    have c3b1 : (a0 != 0) = false := bne_eq_false_iff_eq.mpr c3
    clear c3
    obtain rfl := Option.some.inj H
    go_enter Try.func57, Try.ntmps57
    go_wp2
    go_ret
    exact ⟨zE, zD⟩
  · rw [if_neg c3] at H
    have c3b0 : (a0 == 0) = false := beq_eq_false_iff_ne.mpr c3
    have c3b1 : (a0 != 0) = true := bne_iff_ne.mpr c3
    by_cases c4 : a1 = true
    · subst c4
      replace H := zT H
      obtain rfl := Option.some.inj H
      go_enter Try.func57, Try.ntmps57
      go_wp2
      go_ret
      exact ⟨zE, zD⟩
    · replace c4 := Bool.eq_false_iff.mpr c4
      subst c4
      replace H := zU H
      obtain rfl := Option.some.inj H
      go_enter Try.func57, Try.ntmps57
      go_wp2
      go_ret
      exact ⟨zE, zD⟩

/-! ### isa_Check: function 44 -/
set_option maxHeartbeats 8000000 in
set_option maxRecDepth 100000 in
theorem isa_Check.calls (k : Nat) (a0_0 : Int) (a0_1 : Int) (a0_2 : Int) (a0_3 : Int) (a0_4 : Int) (r : Int) (w : World) (h : isa_Check.f k a0_0 a0_1 a0_2 a0_3 a0_4 = some r) :
    Calls Try.prog 44 #[.agg #[.int .u8 a0_0, .int .u8 a0_1, .int .u8 a0_2, .int .u8 a0_3, .int .i32 a0_4]] w fun e w' => e = .returned (.int .i64 r) ∧ Below w.heap.size w w' := by
  have hu75 := Try.underlying75
  have HB := Aside0.mk (Below.refl w.heap.size w)
  have H : ((isa_Uses.f k a0_0).bind fun bt119 => (if a0_0 > 21 then (isa_Check.j0 k true a0_0 a0_1 a0_2 a0_3 a0_4) else ((isa_Check_1.f a0_1 bt119.1).bind fun t123 => (if t123 = true then ((isa_Check_1.f a0_2 bt119.2.1).bind fun t124 => (if t124 = true then ((isa_Check_1.f a0_3 bt119.2.2.1).bind fun t125 => (if t125 = true then (if bt119.2.2.2 = true then (isa_Check.j0 k false a0_0 a0_1 a0_2 a0_3 a0_4) else (isa_Check.j0 k (a0_4 != 0) a0_0 a0_1 a0_2 a0_3 a0_4)) else (isa_Check.j0 k true a0_0 a0_1 a0_2 a0_3 a0_4))) else (isa_Check.j0 k true a0_0 a0_1 a0_2 a0_3 a0_4))) else (isa_Check.j0 k true a0_0 a0_1 a0_2 a0_3 a0_4))))) = some r := h
  clear h
  replace H := Option.bind_eq_some_iff.mp H
  obtain ⟨⟨t119, t120, t121, t122⟩, A20, H⟩ := H
  replace H : (if a0_0 > 21 then (isa_Check.j0 k true a0_0 a0_1 a0_2 a0_3 a0_4) else ((isa_Check_1.f a0_1 t119).bind fun t123 => (if t123 = true then ((isa_Check_1.f a0_2 t120).bind fun t124 => (if t124 = true then ((isa_Check_1.f a0_3 t121).bind fun t125 => (if t125 = true then (if t122 = true then (isa_Check.j0 k false a0_0 a0_1 a0_2 a0_3 a0_4) else (isa_Check.j0 k (a0_4 != 0) a0_0 a0_1 a0_2 a0_3 a0_4)) else (isa_Check.j0 k true a0_0 a0_1 a0_2 a0_3 a0_4))) else (isa_Check.j0 k true a0_0 a0_1 a0_2 a0_3 a0_4))) else (isa_Check.j0 k true a0_0 a0_1 a0_2 a0_3 a0_4)))) = some r := H
  have A2 := Aside0.mk A20
  clear A20
  have HC3 := Aside0.mk H
  clear H
  go_enter Try.func44, Try.ntmps44
  go_upto_region 3 with (first | ((with_reducible refine gate_dst (N := 1) rfl ?_); refine zX (N := 1) (cs := #[.int .u8 a0_0, .int .u8 a0_1, .int .u8 a0_2, .int .u8 a0_3, .int .i32 a0_4]) (t := 75) ?_ ?_; (focus first | (go_simp; done) | (go_simp; rfl)); intro gb118 hg w4 hbox hb; have BK118 := Aside0.mk (hbox); have GW118 := Aside0.mk (zS hg : w.heap.size ≤ gb118); have GE118 := Aside0.mk (zS hg : w.heap.size ≤ gb118); replace HB := Aside0.mk (below_step zB hb); clear hb hbox hg; obtain ⟨hcz5_0, hcz5_1, hcz5_2, hcz5_3, hcz5_4⟩ := zc5 BK118; obtain ⟨hfz5_0, hfz5_1, hfz5_2, hfz5_3, hfz5_4⟩ := zf5 BK118) | ((with_reducible refine gate_callee (f := 55) rfl ?_); refine zG (some 11) Try.func55 #[.int .u8 a0_0] ?_; (with_reducible refine (isa_Uses.calls k a0_0 t119 t120 t121 t122 _ A2.out).mono ?_); rintro e w' ⟨rfl, ⟨nd, rfl⟩⟩; refine ⟨_, rfl, ?_⟩))
  (try simp only [Act.put, List.setIfInBounds_toArray, List.set_cons_zero, List.set_cons_succ])
  go_cut [16] (fun v16 wc => ∃ (kq : Nat) (x16_2 : Bool), v16 = .bool x16_2 ∧ Aside0 (isa_Check.j0 kq x16_2 a0_0 a0_1 a0_2 a0_3 a0_4 = some r) ∧ Aside0 (kq ≤ k) ∧ Aside0 (wc.heap[gb118]? = some (.cells #[.int .u8 a0_0, .int .u8 a0_1, .int .u8 a0_2, .int .u8 a0_3, .int .i32 a0_4] 75 (0, 0))) ∧ Aside0 (Below w.heap.size w wc))
  case first =>
    have H := HC3.out
    clear HC3
    by_cases c6 : a0_0 > 21
    · rw [if_pos c6] at H
      have c6b0 : decide (21 < a0_0) = true := decide_eq_true c6
      clear c6
      (first | rw [c6b0] | (simp only [i64_w, i32_w]; rw [c6b0]) | skip)
      have H' := Aside0.mk H
      clear H
      obtain ⟨hcz7_0, hcz7_1, hcz7_2, hcz7_3, hcz7_4⟩ := zc5 BK118
      obtain ⟨hfz7_0, hfz7_1, hfz7_2, hfz7_3, hfz7_4⟩ := zf5 BK118
      go_wp2
      go_meet
      case rel => exact ⟨_, (true), (zE), H', ⟨by first | omega | exact Nat.le_refl _⟩, ⟨zK⟩, ⟨zB⟩⟩
    · rw [if_neg c6] at H
      have c6b0 : decide (21 < a0_0) = false := decide_eq_false c6
      clear c6
      (first | rw [c6b0] | (simp only [i64_w, i32_w]; rw [c6b0]) | skip)
      replace H := Option.bind_eq_some_iff.mp H
      obtain ⟨t123, A80, H⟩ := H
      replace H : (if t123 = true then ((isa_Check_1.f a0_2 t120).bind fun t124 => (if t124 = true then ((isa_Check_1.f a0_3 t121).bind fun t125 => (if t125 = true then (if t122 = true then (isa_Check.j0 k false a0_0 a0_1 a0_2 a0_3 a0_4) else (isa_Check.j0 k (a0_4 != 0) a0_0 a0_1 a0_2 a0_3 a0_4)) else (isa_Check.j0 k true a0_0 a0_1 a0_2 a0_3 a0_4))) else (isa_Check.j0 k true a0_0 a0_1 a0_2 a0_3 a0_4))) else (isa_Check.j0 k true a0_0 a0_1 a0_2 a0_3 a0_4)) = some r := H
      have A8 := Aside0.mk A80
      clear A80
      by_cases c9 : t123 = true
      · subst c9
        replace H := zT H
        replace H := Option.bind_eq_some_iff.mp H
        obtain ⟨t124, A100, H⟩ := H
        replace H : (if t124 = true then ((isa_Check_1.f a0_3 t121).bind fun t125 => (if t125 = true then (if t122 = true then (isa_Check.j0 k false a0_0 a0_1 a0_2 a0_3 a0_4) else (isa_Check.j0 k (a0_4 != 0) a0_0 a0_1 a0_2 a0_3 a0_4)) else (isa_Check.j0 k true a0_0 a0_1 a0_2 a0_3 a0_4))) else (isa_Check.j0 k true a0_0 a0_1 a0_2 a0_3 a0_4)) = some r := H
        have A10 := Aside0.mk A100
        clear A100
        by_cases c11 : t124 = true
        · subst c11
          replace H := zT H
          replace H := Option.bind_eq_some_iff.mp H
          obtain ⟨t125, A120, H⟩ := H
          replace H : (if t125 = true then (if t122 = true then (isa_Check.j0 k false a0_0 a0_1 a0_2 a0_3 a0_4) else (isa_Check.j0 k (a0_4 != 0) a0_0 a0_1 a0_2 a0_3 a0_4)) else (isa_Check.j0 k true a0_0 a0_1 a0_2 a0_3 a0_4)) = some r := H
          have A12 := Aside0.mk A120
          clear A120
          by_cases c13 : t125 = true
          · subst c13
            replace H := zT H
            by_cases c14 : t122 = true
            · subst c14
              replace H := zT H
              have H' := Aside0.mk H
              clear H
              obtain ⟨hcz15_0, hcz15_1, hcz15_2, hcz15_3, hcz15_4⟩ := zc5 BK118
              obtain ⟨hfz15_0, hfz15_1, hfz15_2, hfz15_3, hfz15_4⟩ := zf5 BK118
              go_wp2_with (first | (go_at_call 57; (with_reducible refine (isa_Check_1.calls a0_1 t119 true _ A8.out).mono ?_); rintro e w' ⟨rfl, ⟨nd, rfl⟩⟩) | (go_at_call 57; (with_reducible refine (isa_Check_1.calls a0_2 t120 true _ A10.out).mono ?_); rintro e w' ⟨rfl, ⟨nd, rfl⟩⟩) | (go_at_call 57; (with_reducible refine (isa_Check_1.calls a0_3 t121 true _ A12.out).mono ?_); rintro e w' ⟨rfl, ⟨nd, rfl⟩⟩))
              go_meet
              case rel => exact ⟨_, (false), (zE), H', ⟨by first | omega | exact Nat.le_refl _⟩, ⟨zK⟩, ⟨zB⟩⟩
            · replace c14 := Bool.eq_false_iff.mpr c14
              subst c14
              replace H := zU H
              have H' := Aside0.mk H
              clear H
              obtain ⟨hcz16_0, hcz16_1, hcz16_2, hcz16_3, hcz16_4⟩ := zc5 BK118
              obtain ⟨hfz16_0, hfz16_1, hfz16_2, hfz16_3, hfz16_4⟩ := zf5 BK118
              go_wp2_with (first | (go_at_call 57; (with_reducible refine (isa_Check_1.calls a0_1 t119 true _ A8.out).mono ?_); rintro e w' ⟨rfl, ⟨nd, rfl⟩⟩) | (go_at_call 57; (with_reducible refine (isa_Check_1.calls a0_2 t120 true _ A10.out).mono ?_); rintro e w' ⟨rfl, ⟨nd, rfl⟩⟩) | (go_at_call 57; (with_reducible refine (isa_Check_1.calls a0_3 t121 true _ A12.out).mono ?_); rintro e w' ⟨rfl, ⟨nd, rfl⟩⟩))
              go_meet
              case rel => exact ⟨_, ((a0_4 != 0)), (zE), H', ⟨by first | omega | exact Nat.le_refl _⟩, ⟨zK⟩, ⟨zB⟩⟩
          · replace c13 := Bool.eq_false_iff.mpr c13
            subst c13
            replace H := zU H
            have H' := Aside0.mk H
            clear H
            obtain ⟨hcz17_0, hcz17_1, hcz17_2, hcz17_3, hcz17_4⟩ := zc5 BK118
            obtain ⟨hfz17_0, hfz17_1, hfz17_2, hfz17_3, hfz17_4⟩ := zf5 BK118
            go_wp2_with (first | (go_at_call 57; (with_reducible refine (isa_Check_1.calls a0_1 t119 true _ A8.out).mono ?_); rintro e w' ⟨rfl, ⟨nd, rfl⟩⟩) | (go_at_call 57; (with_reducible refine (isa_Check_1.calls a0_2 t120 true _ A10.out).mono ?_); rintro e w' ⟨rfl, ⟨nd, rfl⟩⟩) | (go_at_call 57; (with_reducible refine (isa_Check_1.calls a0_3 t121 false _ A12.out).mono ?_); rintro e w' ⟨rfl, ⟨nd, rfl⟩⟩))
            go_meet
            case rel => exact ⟨_, (true), (zE), H', ⟨by first | omega | exact Nat.le_refl _⟩, ⟨zK⟩, ⟨zB⟩⟩
        · replace c11 := Bool.eq_false_iff.mpr c11
          subst c11
          replace H := zU H
          have H' := Aside0.mk H
          clear H
          obtain ⟨hcz18_0, hcz18_1, hcz18_2, hcz18_3, hcz18_4⟩ := zc5 BK118
          obtain ⟨hfz18_0, hfz18_1, hfz18_2, hfz18_3, hfz18_4⟩ := zf5 BK118
          go_wp2_with (first | (go_at_call 57; (with_reducible refine (isa_Check_1.calls a0_1 t119 true _ A8.out).mono ?_); rintro e w' ⟨rfl, ⟨nd, rfl⟩⟩) | (go_at_call 57; (with_reducible refine (isa_Check_1.calls a0_2 t120 false _ A10.out).mono ?_); rintro e w' ⟨rfl, ⟨nd, rfl⟩⟩))
          go_meet
          case rel => exact ⟨_, (true), (zE), H', ⟨by first | omega | exact Nat.le_refl _⟩, ⟨zK⟩, ⟨zB⟩⟩
      · replace c9 := Bool.eq_false_iff.mpr c9
        subst c9
        replace H := zU H
        have H' := Aside0.mk H
        clear H
        obtain ⟨hcz19_0, hcz19_1, hcz19_2, hcz19_3, hcz19_4⟩ := zc5 BK118
        obtain ⟨hfz19_0, hfz19_1, hfz19_2, hfz19_3, hfz19_4⟩ := zf5 BK118
        go_wp2_with (first | (go_at_call 57; (with_reducible refine (isa_Check_1.calls a0_1 t119 false _ A8.out).mono ?_); rintro e w' ⟨rfl, ⟨nd, rfl⟩⟩))
        go_meet
        case rel => exact ⟨_, (true), (zE), H', ⟨by first | omega | exact Nat.le_refl _⟩, ⟨zK⟩, ⟨zB⟩⟩
  case rest =>
    clear HC3
    try clear c1
    try clear p2
    try clear c4
    try clear c5
    try clear c6
    try clear c6b0
    try clear c9
    try clear c11
    try clear c13
    try clear c14
    try clear hcz15_0 hcz15_1 hcz15_2 hcz15_3 hcz15_4
    try clear hcz16_0 hcz16_1 hcz16_2 hcz16_3 hcz16_4
    try clear hcz17_0 hcz17_1 hcz17_2 hcz17_3 hcz17_4
    try clear hcz18_0 hcz18_1 hcz18_2 hcz18_3 hcz18_4
    try clear hcz19_0 hcz19_1 hcz19_2 hcz19_3 hcz19_4
    try clear hcz5_0 hcz5_1 hcz5_2 hcz5_3 hcz5_4
    try clear hcz7_0 hcz7_1 hcz7_2 hcz7_3 hcz7_4
    try clear hfz15_0 hfz15_1 hfz15_2 hfz15_3 hfz15_4
    try clear hfz16_0 hfz16_1 hfz16_2 hfz16_3 hfz16_4
    try clear hfz17_0 hfz17_1 hfz17_2 hfz17_3 hfz17_4
    try clear hfz18_0 hfz18_1 hfz18_2 hfz18_3 hfz18_4
    try clear hfz19_0 hfz19_1 hfz19_2 hfz19_3 hfz19_4
    try clear hfz5_0 hfz5_1 hfz5_2 hfz5_3 hfz5_4
    try clear hfz7_0 hfz7_1 hfz7_2 hfz7_3 hfz7_4
    obtain ⟨kq, x16_2, rfl, HA, HJ2, BK118, HB⟩ := hcut
    cases kq with
    | zero => exact absurd HA.out (by simp [isa_Check.j0])
    | succ kj2 =>
      have H := HA.out
      clear HA
      simp only [isa_Check.j0] at H
      by_cases c20 : x16_2 = true
      · subst c20
        replace H := zT H
        obtain rfl := Option.some.inj H
        go_wp2
        go_ret
        exact ⟨zF, zB⟩
      · replace c20 := Bool.eq_false_iff.mpr c20
        subst c20
        replace H := zU H
        replace H := Option.bind_eq_some_iff.mp H
        obtain ⟨t126, A210, H⟩ := H
        replace H : (if t126 = true then (if a0_0 = 17 then (isa_Check.j1 kj2 (decide (a0_4 < 0)) a0_0 a0_1 a0_2 a0_3 a0_4) else (isa_Check.j1 kj2 false a0_0 a0_1 a0_2 a0_3 a0_4)) else (some 11)) = some r := H
        have A21 := Aside0.mk A210
        clear A210
        by_cases c22 : t126 = true
        · subst c22
          replace H := zT H
          have HC23 := Aside0.mk H
          clear H
          obtain ⟨hcz24_0, hcz24_1, hcz24_2, hcz24_3, hcz24_4⟩ := zc5 BK118
          obtain ⟨hfz24_0, hfz24_1, hfz24_2, hfz24_3, hfz24_4⟩ := zf5 BK118
          go_upto_region 7 with (first | ((with_reducible refine gate_callee (f := 33) rfl ?_); refine zG (some 57) Try.func33 #[.int .i64 (wrap64 (a0_4)), .int .i64 21] ?_; (with_reducible refine (word_Fits.calls (wrap64 (a0_4)) 21 true _ A21.out).mono ?_); rintro e w' ⟨rfl, ⟨nd, rfl⟩⟩; refine ⟨_, rfl, ?_⟩))
          (try simp only [Act.put, List.setIfInBounds_toArray, List.set_cons_zero, List.set_cons_succ])
          go_cut [59] (fun v59 wc => ∃ (kq : Nat) (x59_22 : Bool), v59 = .bool x59_22 ∧ Aside0 (isa_Check.j1 kq x59_22 a0_0 a0_1 a0_2 a0_3 a0_4 = some r) ∧ Aside0 (kq ≤ kj2) ∧ Aside0 (wc.heap[gb118]? = some (.cells #[.int .u8 a0_0, .int .u8 a0_1, .int .u8 a0_2, .int .u8 a0_3, .int .i32 a0_4] 75 (0, 0))) ∧ Aside0 (Below w.heap.size w wc))
          case first =>
            have H := HC23.out
            clear HC23
            by_cases c25 : a0_0 = 17
            · rw [if_pos c25] at H
              have c25b0 : (a0_0 == 17) = true := beq_iff_eq.mpr c25
              have c25b1 : (a0_0 != 17) = false := bne_eq_false_iff_eq.mpr c25
              clear c25
              (first | rw [c25b0] | (simp only [i64_w, i32_w]; rw [c25b0]) | skip)
              have H' := Aside0.mk H
              clear H
              obtain ⟨hcz26_0, hcz26_1, hcz26_2, hcz26_3, hcz26_4⟩ := zc5 BK118
              obtain ⟨hfz26_0, hfz26_1, hfz26_2, hfz26_3, hfz26_4⟩ := zf5 BK118
              go_wp2
              go_meet
              case rel => exact ⟨_, (decide (a0_4 < 0)), (zE), H', ⟨by have := HJ2.out; first | omega | exact Nat.le_refl _⟩, ⟨zK⟩, ⟨zB⟩⟩
            · rw [if_neg c25] at H
              have c25b0 : (a0_0 == 17) = false := beq_eq_false_iff_ne.mpr c25
              have c25b1 : (a0_0 != 17) = true := bne_iff_ne.mpr c25
              (first | rw [c25b0] | (simp only [i64_w, i32_w]; rw [c25b0]) | skip)
              have H' := Aside0.mk H
              clear H
              obtain ⟨hcz27_0, hcz27_1, hcz27_2, hcz27_3, hcz27_4⟩ := zc5 BK118
              obtain ⟨hfz27_0, hfz27_1, hfz27_2, hfz27_3, hfz27_4⟩ := zf5 BK118
              go_wp2
              go_meet
              case rel => exact ⟨_, (false), (zE), H', ⟨by have := HJ2.out; first | omega | exact Nat.le_refl _⟩, ⟨zK⟩, ⟨zB⟩⟩
          case rest =>
            clear HC23
            try clear c1
            try clear c2
            try clear p2
            try clear c3
            try clear c4
            try clear c5
            try clear c6
            try clear c6b0
            try clear p6
            try clear c9
            try clear c11
            try clear c13
            try clear c14
            try clear c20
            try clear c22
            try clear c25
            try clear c25b0
            try clear c25b1
            try clear hcz15_0 hcz15_1 hcz15_2 hcz15_3 hcz15_4
            try clear hcz16_0 hcz16_1 hcz16_2 hcz16_3 hcz16_4
            try clear hcz17_0 hcz17_1 hcz17_2 hcz17_3 hcz17_4
            try clear hcz18_0 hcz18_1 hcz18_2 hcz18_3 hcz18_4
            try clear hcz19_0 hcz19_1 hcz19_2 hcz19_3 hcz19_4
            try clear hcz24_0 hcz24_1 hcz24_2 hcz24_3 hcz24_4
            try clear hcz26_0 hcz26_1 hcz26_2 hcz26_3 hcz26_4
            try clear hcz27_0 hcz27_1 hcz27_2 hcz27_3 hcz27_4
            try clear hcz5_0 hcz5_1 hcz5_2 hcz5_3 hcz5_4
            try clear hcz7_0 hcz7_1 hcz7_2 hcz7_3 hcz7_4
            try clear hfz15_0 hfz15_1 hfz15_2 hfz15_3 hfz15_4
            try clear hfz16_0 hfz16_1 hfz16_2 hfz16_3 hfz16_4
            try clear hfz17_0 hfz17_1 hfz17_2 hfz17_3 hfz17_4
            try clear hfz18_0 hfz18_1 hfz18_2 hfz18_3 hfz18_4
            try clear hfz19_0 hfz19_1 hfz19_2 hfz19_3 hfz19_4
            try clear hfz24_0 hfz24_1 hfz24_2 hfz24_3 hfz24_4
            try clear hfz26_0 hfz26_1 hfz26_2 hfz26_3 hfz26_4
            try clear hfz27_0 hfz27_1 hfz27_2 hfz27_3 hfz27_4
            try clear hfz5_0 hfz5_1 hfz5_2 hfz5_3 hfz5_4
            try clear hfz7_0 hfz7_1 hfz7_2 hfz7_3 hfz7_4
            try clear p2
            obtain ⟨kq, x59_22, rfl, HA, HJ22, BK118, HB⟩ := hcut
            cases kq with
            | zero => exact absurd HA.out (by simp [isa_Check.j1])
            | succ kj22 =>
              have H := HA.out
              clear HA
              simp only [isa_Check.j1] at H
              by_cases c28 : x59_22 = true
              · subst c28
                replace H := zT H
                obtain rfl := Option.some.inj H
                go_wp2
                go_ret
                exact ⟨zF, zB⟩
              · replace c28 := Bool.eq_false_iff.mpr c28
                subst c28
                replace H := zU H
                by_cases c29 : a0_0 = 21
                · rw [if_pos c29] at H
                  have c29b0 : (a0_0 == 21) = true := beq_iff_eq.mpr c29
                  have c29b1 : (a0_0 != 21) = false := bne_eq_false_iff_eq.mpr c29
                  clear c29
                  by_cases c30 : a0_4 < 0
                  · rw [if_pos c30] at H
                    have c30b0 : decide (a0_4 < 0) = true := decide_eq_true c30
                    clear c30
                    obtain rfl := Option.some.inj H
                    obtain ⟨hcz31_0, hcz31_1, hcz31_2, hcz31_3, hcz31_4⟩ := zc5 BK118
                    obtain ⟨hfz31_0, hfz31_1, hfz31_2, hfz31_3, hfz31_4⟩ := zf5 BK118
                    go_wp2
                    go_ret
                    exact ⟨zF, zB⟩
                  · rw [if_neg c30] at H
                    have c30b0 : decide (a0_4 < 0) = false := decide_eq_false c30
                    clear c30
                    by_cases c32 : a0_4 > 63
                    · rw [if_pos c32] at H
                      have c32b0 : decide (63 < a0_4) = true := decide_eq_true c32
                      clear c32
                      obtain rfl := Option.some.inj H
                      obtain ⟨hcz33_0, hcz33_1, hcz33_2, hcz33_3, hcz33_4⟩ := zc5 BK118
                      obtain ⟨hfz33_0, hfz33_1, hfz33_2, hfz33_3, hfz33_4⟩ := zf5 BK118
                      go_wp2
                      go_ret
                      exact ⟨zF, zB⟩
                    · rw [if_neg c32] at H
                      have c32b0 : decide (63 < a0_4) = false := decide_eq_false c32
                      clear c32
                      obtain rfl := Option.some.inj H
                      obtain ⟨hcz34_0, hcz34_1, hcz34_2, hcz34_3, hcz34_4⟩ := zc5 BK118
                      obtain ⟨hfz34_0, hfz34_1, hfz34_2, hfz34_3, hfz34_4⟩ := zf5 BK118
                      go_wp2
                      go_ret
                      exact ⟨zF, zB⟩
                · rw [if_neg c29] at H
                  have c29b0 : (a0_0 == 21) = false := beq_eq_false_iff_ne.mpr c29
                  have c29b1 : (a0_0 != 21) = true := bne_iff_ne.mpr c29
                  obtain rfl := Option.some.inj H
                  obtain ⟨hcz35_0, hcz35_1, hcz35_2, hcz35_3, hcz35_4⟩ := zc5 BK118
                  obtain ⟨hfz35_0, hfz35_1, hfz35_2, hfz35_3, hfz35_4⟩ := zf5 BK118
                  go_wp2
                  go_ret
                  exact ⟨zF, zB⟩
        · replace c22 := Bool.eq_false_iff.mpr c22
          subst c22
          replace H := zU H
          obtain rfl := Option.some.inj H
          obtain ⟨hcz36_0, hcz36_1, hcz36_2, hcz36_3, hcz36_4⟩ := zc5 BK118
          obtain ⟨hfz36_0, hfz36_1, hfz36_2, hfz36_3, hfz36_4⟩ := zf5 BK118
          go_wp2_with (first | ((with_reducible refine gate_callee (f := 33) rfl ?_); refine zG (some 57) Try.func33 #[.int .i64 (wrap64 (a0_4)), .int .i64 21] ?_; (with_reducible refine (word_Fits.calls (wrap64 (a0_4)) 21 false _ A21.out).mono ?_); rintro e w' ⟨rfl, ⟨nd, rfl⟩⟩; refine ⟨_, rfl, ?_⟩))
          go_ret
          exact ⟨zF, zB⟩

/-! ### word_may: function 58 -/
set_option maxHeartbeats 8000000 in
set_option maxRecDepth 100000 in
theorem word_may.calls (a0 : Int) (a1 : Int) (r : Bool) (w : World) (h : word_may.f a0 a1 = some r) :
    Calls Try.prog 58 #[.int .i64 a0, .int .i64 a1] w fun e w' => e = .returned (.bool r) ∧ Drawn0 w w' := by
  have H : (if a0 ≥ 0 then (if a1 ≥ 0 then (if a0 ≤ 32 then (some (decide (a1 ≤ (wrap64 (32 - a0))))) else (some false)) else (some false)) else (some false)) = some r := h
  clear h
  by_cases c3 : a0 ≥ 0
  · rw [if_pos c3] at H
    have c3b0 : decide (0 ≤ a0) = true := decide_eq_true c3
    clear c3
    by_cases c4 : a1 ≥ 0
    · rw [if_pos c4] at H
      have c4b0 : decide (0 ≤ a1) = true := decide_eq_true c4
      clear c4
      by_cases c5 : a0 ≤ 32
      · rw [if_pos c5] at H
        have c5b0 : decide (a0 ≤ 32) = true := decide_eq_true c5
        clear c5
        obtain rfl := Option.some.inj H
        go_enter Try.func58, Try.ntmps58
        go_wp2
        go_ret
        exact ⟨zE, zD⟩
      · rw [if_neg c5] at H
        have c5b0 : decide (a0 ≤ 32) = false := decide_eq_false c5
        clear c5
        obtain rfl := Option.some.inj H
        go_enter Try.func58, Try.ntmps58
        go_wp2
        go_ret
        exact ⟨zE, zD⟩
    · rw [if_neg c4] at H
      have c4b0 : decide (0 ≤ a1) = false := decide_eq_false c4
      clear c4
      obtain rfl := Option.some.inj H
      go_enter Try.func58, Try.ntmps58
      go_wp2
      go_ret
      exact ⟨zE, zD⟩
  · rw [if_neg c3] at H
    have c3b0 : decide (0 ≤ a0) = false := decide_eq_false c3
    clear c3
    obtain rfl := Option.some.inj H
    go_enter Try.func58, Try.ntmps58
    go_wp2
    go_ret
    exact ⟨zE, zD⟩

/-! ### word_mask: function 59 -/
set_option maxHeartbeats 8000000 in
set_option maxRecDepth 100000 in
theorem word_mask.calls (a0 : Int) (r : Int) (w : World) (h : word_mask.f a0 = some r) :
    Calls Try.prog 59 #[.int .i64 a0] w fun e w' => e = .returned (.int .u32 r) ∧ Drawn0 w w' := by
  have H : (if 0 ≤ a0 then (some (((shl .u32 1 a0) - 1) % 4294967296)) else (none)) = some r := h
  clear h
  by_cases c2 : 0 ≤ a0
  · rw [if_pos c2] at H
    have c2b0 := eq_true c2
    have c2b1 : decide (0 ≤ a0) = true := decide_eq_true c2
    clear c2
    obtain ⟨ji3, hji3⟩ : ∃ j_ : Int, (shl .u32 1 a0) = j_ := ⟨_, rfl⟩
    replace H : (some (((ji3) - 1) % 4294967296)) = some r := by first | (rw [hji3] at H; exact H) | (simp only [hji3] at H ⊢; exact H)
    have hji3_ : (IntKind.u32.wrap (1 * 2 ^ min a0.toNat 32)) = ji3 := hji3
    have hji3z : a0 ≤ 32 → (IntKind.u32.wrap (1 * 2 ^ a0.toNat)) = ji3 := shl_small hji3
    have hji3u : (IntKind.u32.wrap (2 ^ min a0.toNat 32)) = ji3 := by have h_ := hji3_; rw [Int.one_mul] at h_; exact h_
    have hji3v : a0 ≤ 32 → (IntKind.u32.wrap (2 ^ a0.toNat)) = ji3 := fun hle_ => by have h_ := hji3z hle_; rw [Int.one_mul] at h_; exact h_
    obtain rfl := Option.some.inj H
    go_enter Try.func59, Try.ntmps59
    go_wp2
    go_ret
    exact ⟨by first | rfl | (simp; done) | (simp only [← hji3] <;> (first | rfl | simp)) | (simp [*]; done), zD⟩
  · rw [if_neg c2] at H
    exact absurd H (by simp)

/-! ### word_With: function 45 -/
set_option maxHeartbeats 8000000 in
set_option maxRecDepth 100000 in
theorem word_With.calls (a0 : Int) (a1 : Int) (a2 : Int) (a3 : Int) (r : Int) (w : World) (h : word_With.f a0 a1 a2 a3 = some r) :
    Calls Try.prog 45 #[.int .u32 a0, .int .i64 a1, .int .i64 a2, .int .u32 a3] w fun e w' => e = .returned (.int .u32 r) ∧ Drawn0 w w' := by
  have H : ((word_may.f a1 a2).bind fun t127 => (if t127 = true then ((word_mask.f a2).bind fun t128 => (if 0 ≤ a1 then ((word_mask.f a2).bind fun t129 => (some (Go.bits .or .u32 (Go.bits .andNot .u32 a0 (shl .u32 t128 a1)) (shl .u32 (Go.bits .and .u32 a3 t129) a1)))) else (none))) else (some a0))) = some r := h
  clear h
  replace H := Option.bind_eq_some_iff.mp H
  obtain ⟨t127, A50, H⟩ := H
  replace H : (if t127 = true then ((word_mask.f a2).bind fun t128 => (if 0 ≤ a1 then ((word_mask.f a2).bind fun t129 => (some (Go.bits .or .u32 (Go.bits .andNot .u32 a0 (shl .u32 t128 a1)) (shl .u32 (Go.bits .and .u32 a3 t129) a1)))) else (none))) else (some a0)) = some r := H
  have A5 := Aside0.mk A50
  clear A50
  by_cases c6 : t127 = true
  · subst c6
    replace H := zT H
    replace H := Option.bind_eq_some_iff.mp H
    obtain ⟨t128, A70, H⟩ := H
    replace H : (if 0 ≤ a1 then ((word_mask.f a2).bind fun t129 => (some (Go.bits .or .u32 (Go.bits .andNot .u32 a0 (shl .u32 t128 a1)) (shl .u32 (Go.bits .and .u32 a3 t129) a1)))) else (none)) = some r := H
    have A7 := Aside0.mk A70
    clear A70
    by_cases c8 : 0 ≤ a1
    · rw [if_pos c8] at H
      have c8b0 := eq_true c8
      have c8b1 : decide (0 ≤ a1) = true := decide_eq_true c8
      clear c8
      obtain ⟨ji9, hji9⟩ : ∃ j_ : Int, (shl .u32 t128 a1) = j_ := ⟨_, rfl⟩
      replace H : ((word_mask.f a2).bind fun t129 => (some (Go.bits .or .u32 (Go.bits .andNot .u32 a0 (ji9)) (shl .u32 (Go.bits .and .u32 a3 t129) a1)))) = some r := by first | (rw [hji9] at H; exact H) | (simp only [hji9] at H ⊢; exact H)
      (try rw [hji9] at A5)
      (try rw [hji9] at A7)
      have hji9_ : (IntKind.u32.wrap (t128 * 2 ^ min a1.toNat 32)) = ji9 := hji9
      have hji9z : a1 ≤ 32 → (IntKind.u32.wrap (t128 * 2 ^ a1.toNat)) = ji9 := shl_small hji9
      replace H := Option.bind_eq_some_iff.mp H
      obtain ⟨t129, A100, H⟩ := H
      replace H : (some (Go.bits .or .u32 (Go.bits .andNot .u32 a0 (ji9)) (shl .u32 (Go.bits .and .u32 a3 t129) a1))) = some r := H
      have A10 := Aside0.mk A100
      clear A100
      have c11b0 := eq_true (of_decide_eq_true (by first | (with_reducible assumption) | assumption) : 0 ≤ a1)
      obtain ⟨ji12, hji12⟩ : ∃ j_ : Int, (shl .u32 (Go.bits .and .u32 a3 t129) a1) = j_ := ⟨_, rfl⟩
      replace H : (some (Go.bits .or .u32 (Go.bits .andNot .u32 a0 (ji9)) (ji12))) = some r := by first | (rw [hji12] at H; exact H) | (simp only [hji12] at H ⊢; exact H)
      (try rw [hji12] at A5)
      (try rw [hji12] at A7)
      (try rw [hji12] at A10)
      have hji12_ : (IntKind.u32.wrap ((Go.bits .and .u32 a3 t129) * 2 ^ min a1.toNat 32)) = ji12 := hji12
      have hji12z : a1 ≤ 32 → (IntKind.u32.wrap ((Go.bits .and .u32 a3 t129) * 2 ^ a1.toNat)) = ji12 := shl_small hji12
      obtain rfl := Option.some.inj H
      go_enter Try.func45, Try.ntmps45
      go_wp2_with (first | (go_at_call 58; (with_reducible refine (word_may.calls a1 a2 true _ A5.out).mono ?_); rintro e w' ⟨rfl, ⟨nd, rfl⟩⟩; (try exact zQ)) | (go_at_call 59; (with_reducible refine (word_mask.calls a2 t128 _ A7.out).mono ?_); rintro e w' ⟨rfl, ⟨nd, rfl⟩⟩; (try exact zQ)) | (go_at_call 59; (with_reducible refine (word_mask.calls a2 t129 _ A10.out).mono ?_); rintro e w' ⟨rfl, ⟨nd, rfl⟩⟩; (try exact zQ)))
      repeat (go_quiet (first | (go_at_call 58; (with_reducible refine (word_may.calls a1 a2 true _ A5.out).mono ?_); rintro e w' ⟨rfl, ⟨nd, rfl⟩⟩; (try exact zQ)) | (go_at_call 59; (with_reducible refine (word_mask.calls a2 t128 _ A7.out).mono ?_); rintro e w' ⟨rfl, ⟨nd, rfl⟩⟩; (try exact zQ)) | (go_at_call 59; (with_reducible refine (word_mask.calls a2 t129 _ A10.out).mono ?_); rintro e w' ⟨rfl, ⟨nd, rfl⟩⟩; (try exact zQ))); try go_wp2_with (first | (go_at_call 58; (with_reducible refine (word_may.calls a1 a2 true _ A5.out).mono ?_); rintro e w' ⟨rfl, ⟨nd, rfl⟩⟩; (try exact zQ)) | (go_at_call 59; (with_reducible refine (word_mask.calls a2 t128 _ A7.out).mono ?_); rintro e w' ⟨rfl, ⟨nd, rfl⟩⟩; (try exact zQ)) | (go_at_call 59; (with_reducible refine (word_mask.calls a2 t129 _ A10.out).mono ?_); rintro e w' ⟨rfl, ⟨nd, rfl⟩⟩; (try exact zQ))))
      go_ret
      exact ⟨by first | rfl | (simp; done) | (rw [← hji9, ← hji12, show t129 = t128 from Option.some.inj (A10.out.symm.trans A7.out)]; rfl) | (rw [← hji9, ← hji12, show t129 = t128 from Option.some.inj (A10.out.symm.trans A7.out)]; simp [shl, IntKind.wrap_u32]; done) | (simp only [← hji9, ← hji12] <;> (first | rfl | simp)) | (simp [*]; done), zD⟩
    · rw [if_neg c8] at H
      exact absurd H (by simp)
  · replace c6 := Bool.eq_false_iff.mpr c6
    subst c6
    replace H := zU H
    obtain rfl := Option.some.inj H
    go_enter Try.func45, Try.ntmps45
    go_wp2_with (first | (go_at_call 58; (with_reducible refine (word_may.calls a1 a2 false _ A5.out).mono ?_); rintro e w' ⟨rfl, ⟨nd, rfl⟩⟩; (try exact zQ)))
    repeat (go_quiet (first | (go_at_call 58; (with_reducible refine (word_may.calls a1 a2 false _ A5.out).mono ?_); rintro e w' ⟨rfl, ⟨nd, rfl⟩⟩; (try exact zQ))); try go_wp2_with (first | (go_at_call 58; (with_reducible refine (word_may.calls a1 a2 false _ A5.out).mono ?_); rintro e w' ⟨rfl, ⟨nd, rfl⟩⟩; (try exact zQ))))
    go_ret
    exact ⟨zE, zD⟩

/-! ### word_Cut: function 46 -/
set_option maxHeartbeats 8000000 in
set_option maxRecDepth 100000 in
theorem word_Cut.calls (a0 : Int) (a1 : Int) (r : Int) (w : World) (h : word_Cut.f a0 a1 = some r) :
    Calls Try.prog 46 #[.int .i32 a0, .int .i64 a1] w fun e w' => e = .returned (.int .u32 r) ∧ Below w.heap.size w w' := by
  have HB := Aside0.mk (Below.refl w.heap.size w)
  have H : (if a1 < 1 then (some 0) else ((word_mask.f (mn a1 32)).bind fun t130 => (some (Go.bits .and .u32 ((a0) % 4294967296) t130)))) = some r := h
  clear h
  by_cases c3 : a1 < 1
  · rw [if_pos c3] at H
    have c3b0 : decide (a1 < 1) = true := decide_eq_true c3
    clear c3
    obtain rfl := Option.some.inj H
    go_enter Try.func46, Try.ntmps46
    go_wp2
    go_ret
    exact ⟨zF, zB⟩
  · rw [if_neg c3] at H
    have c3b0 : decide (a1 < 1) = false := decide_eq_false c3
    clear c3
    obtain ⟨ji4, hji4⟩ : ∃ j_ : Int, (mn a1 32) = j_ := ⟨_, rfl⟩
    replace H : ((word_mask.f (ji4)).bind fun t130 => (some (Go.bits .and .u32 ((a0) % 4294967296) t130))) = some r := by first | (rw [hji4] at H; exact H) | (simp only [hji4] at H ⊢; exact H)
    (try (have hji4h : ji4 ≤ 32 := by (rw [← hji4]; unfold mn; (repeat' split) <;> omega)))
    (try (have hji4g : ji4 ≤ 64 := by omega))
    have hji4_ : (if 32 < a1 then 32 else a1) = ji4 := hji4
    replace H := Option.bind_eq_some_iff.mp H
    obtain ⟨t130, A50, H⟩ := H
    replace H : (some (Go.bits .and .u32 ((a0) % 4294967296) t130)) = some r := H
    have A5 := Aside0.mk A50
    clear A50
    obtain rfl := Option.some.inj H
    go_enter Try.func46, Try.ntmps46
    go_wp2_with (first | ((with_reducible refine gate_callee (f := 59) rfl ?_); refine goesL_ (some 11) rfl rfl Try.func59 (by kernel_rfl) rfl #[.int .i64 ji4] rfl (by (try simp only [List.map_toArray, List.map_cons, List.map_nil]); first | done | (simp only [hji4]; rfl) | rfl | (simp only [List.length_drop, List.length_take]; rfl)) ?_; (with_reducible refine (word_mask.calls ji4 t130 _ A5.out).mono ?_); rintro e w' ⟨rfl, ⟨nd, rfl⟩⟩; refine ⟨_, rfl, ?_⟩))
    go_ret
    exact ⟨by first | rfl | (simp [errW_none, errW_some] <;> rfl) | (simp only [← hji4]; first | rfl | (simp [errW_none, errW_some] <;> rfl)) | (simp [*, errW_none, errW_some] <;> rfl), zB⟩

end Go.Proofs.Ytllkloneapjgjaa.P
