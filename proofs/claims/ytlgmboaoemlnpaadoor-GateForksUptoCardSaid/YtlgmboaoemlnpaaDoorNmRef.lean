import Derived.Test.YtlgmboaoemlnpaaDoorPx0
import Derived.Test.YtlgmboaoemlnpaaDoorPxf
namespace Go.Proofs.YtlgmboaoemlnpaaDoor.P
open Go.RowKit Go.Proofs.YtlgmboaoemlnpaaDoorW.PrintWords Go.Proofs.YtlgmboaoemlnpaaDoorW.PrintLast Go.Proofs.YtlgmboaoemlnpaaDoorW.PrintMore
attribute [local go_sem] max2_int min2_int max_two min_two max_three min_three max_four min_four   -- for this text's walks alone
set_option linter.unusedVariables false
set_option linter.unusedSimpArgs false

/-! ### budwoodref18_Table_Close: function 26 -/
set_option maxHeartbeats 8000000 in
set_option maxRecDepth 100000 in
theorem budwoodref02_parts.calls (k : Nat) (a0 : ByteArray) (r1 : ByteArray) (r2 : ByteArray) (r3 : Bool) (w : World) (h : budwoodref02_parts.f k a0 = some (r1, r2, r3)) :
    Calls Tryd.prog 42 #[.string a0] w fun e w' => e = .returned (.tuple #[.string r1, .string r2, .bool r3]) ∧ Drawn0 w w' := by
  have H : (budwoodref02_parts.l0 k a0 0) = some (r1, r2, r3) := h
  clear h
  have H' := Aside0.mk H
  clear H
  go_enter Tryd.func42, Tryd.ntmps42
  go_wp2
  repeat (go_quiet (fail); try go_wp2)
  go_loopg [5] k (fun kq v5 w' => ∃ (x5_1 : Int), v5 = .int .i64 x5_1 ∧ Aside0 (budwoodref02_parts.l0 kq a0 x5_1 = some (r1, r2, r3)) ∧ Aside0 (kq ≤ k) ∧ Drawn0 w w')
  case atStart => exact ⟨(0), (zE), H', ⟨Nat.le_refl _⟩, zD⟩
  case round =>
    clear H'
    obtain ⟨x5_1, rfl, HA, HK1, ⟨m1, rfl⟩⟩ := hrel
    cases gk with
    | zero => exact absurd HA.out (by simp [budwoodref02_parts.l0])
    | succ k1 =>
      have H := HA.out
      clear HA
      simp only [budwoodref02_parts.l0] at H
      by_cases c2 : x5_1 < (a0.size : Int)
      · rw [if_pos c2] at H
        have c2b0 : decide (x5_1 < (a0.size : Int)) = true := decide_eq_true c2
        clear c2
        by_cases c3 : 0 ≤ x5_1
        · rw [if_pos c3] at H
          have c3b0 : decide (0 ≤ x5_1) = true := decide_eq_true c3
          clear c3
          by_cases c5 : (bt a0 x5_1) = 64
          · rw [if_pos c5] at H
            have c5b0 : ((bt a0 x5_1) == 64) = true := beq_iff_eq.mpr c5
            have c5b1 : ((bt a0 x5_1) != 64) = false := bne_eq_false_iff_eq.mpr c5
            clear c5
            have c6b0 := eq_true (of_decide_eq_true (by first | (with_reducible assumption) | assumption) : 0 ≤ x5_1)
            by_cases c7 : x5_1 ≤ (a0.size : Int)
            · rw [if_pos c7] at H
              have c7b0 := eq_true c7
              have c7b1 : decide (x5_1 ≤ (a0.size : Int)) = true := decide_eq_true c7
              clear c7
              obtain ⟨ji8, hji8⟩ : ∃ j_ : Int, (wrap64 (x5_1 + 1)) = j_ := ⟨_, rfl⟩
              replace H : (if 0 ≤ (ji8) then (if (ji8) ≤ (a0.size : Int) then (some (a0.extract 0 (x5_1 : Int).toNat, a0.extract ((ji8) : Int).toNat a0.size, true)) else (none)) else (none)) = some (r1, r2, r3) := by first | (rw [hji8] at H; exact H) | (simp only [hji8] at H ⊢; exact H)
              have hji8w : (IntKind.i64.wrap (x5_1 + 1)) = ji8 := (i64_w _).trans hji8
              by_cases c9 : 0 ≤ (ji8)
              · rw [if_pos c9] at H
                have c9b0 := eq_true c9
                have c9b1 : decide (0 ≤ (ji8)) = true := decide_eq_true c9
                clear c9
                by_cases c10 : (ji8) ≤ (a0.size : Int)
                · rw [if_pos c10] at H
                  have c10b0 := eq_true c10
                  have c10b1 : decide ((ji8) ≤ (a0.size : Int)) = true := decide_eq_true c10
                  clear c10
                  simp only [Option.some.injEq, Prod.mk.injEq] at H
                  obtain ⟨rfl, rfl, rfl⟩ := H
                  have p4 : 0 ≤ (x5_1 : Int) := of_decide_eq_true (by first | (with_reducible assumption) | assumption)
                  have q4 : x5_1 < (a0.size : Int) := of_decide_eq_true (by first | (with_reducible assumption) | assumption)
                  have hx4 := bt_at a0 x5_1
                  replace p4 := eq_true p4
                  replace q4 := eq_true q4
                  go_wp2
                  repeat (go_quiet (fail); try go_wp2)
                  go_ret3
                  exact ⟨by first | rfl | (simp; done) | (simp only [← hji8] <;> (first | rfl | simp)) | (simp [*]; done), zD⟩
                · rw [if_neg c10] at H
                  exact absurd H (by simp)
              · rw [if_neg c9] at H
                exact absurd H (by simp)
            · rw [if_neg c7] at H
              exact absurd H (by simp)
          · rw [if_neg c5] at H
            have c5b0 : ((bt a0 x5_1) == 64) = false := beq_eq_false_iff_ne.mpr c5
            have c5b1 : ((bt a0 x5_1) != 64) = true := bne_iff_ne.mpr c5
            have H' := Aside0.mk H
            clear H
            have p4 : 0 ≤ (x5_1 : Int) := of_decide_eq_true (by first | (with_reducible assumption) | assumption)
            have q4 : x5_1 < (a0.size : Int) := of_decide_eq_true (by first | (with_reducible assumption) | assumption)
            have hx4 := bt_at a0 x5_1
            replace p4 := eq_true p4
            replace q4 := eq_true q4
            go_wp2
            repeat (go_quiet (fail); try go_wp2)
            go_roundg k1
            case measure => have := HK1.out; omega
            case rel => exact ⟨(wrap64 (x5_1 + 1)), (zE), H', ⟨by have := HK1.out; omega⟩, zD⟩
        · rw [if_neg c3] at H
          exact absurd H (by simp)
      · rw [if_neg c2] at H
        have c2b0 : decide (x5_1 < (a0.size : Int)) = false := decide_eq_false c2
        clear c2
        simp only [Option.some.injEq, Prod.mk.injEq] at H
        obtain ⟨rfl, rfl, rfl⟩ := H
        go_wp2
        repeat (go_quiet (fail); try go_wp2)
        go_ret3
        exact ⟨zE, zD⟩

/-! ### budwoodref02_more: function 59 -/
set_option maxHeartbeats 8000000 in
set_option maxRecDepth 100000 in
theorem budwoodref02_more.calls (a0 : ByteArray) (a1 : Int) (r : Bool) (w : World) (h : budwoodref02_more.f a0 a1 = some r) :
    Calls Tryd.prog 59 #[.string a0, .int .i64 a1] w fun e w' => e = .returned (.bool r) ∧ Drawn0 w w' := by
  have H : (if a1 < (a0.size : Int) then (if 0 ≤ a1 then (some ((Go.bits .and .u8 (bt a0 a1) 192) == 128)) else (none)) else (some false)) = some r := h
  clear h
  by_cases c3 : a1 < (a0.size : Int)
  · rw [if_pos c3] at H
    have c3b0 : decide (a1 < (a0.size : Int)) = true := decide_eq_true c3
    clear c3
    by_cases c4 : 0 ≤ a1
    · rw [if_pos c4] at H
      have c4b0 : decide (0 ≤ a1) = true := decide_eq_true c4
      clear c4
      obtain rfl := Option.some.inj H
      have p5 : 0 ≤ (a1 : Int) := of_decide_eq_true (by first | (with_reducible assumption) | assumption)
      have q5 : a1 < (a0.size : Int) := of_decide_eq_true (by first | (with_reducible assumption) | assumption)
      have hx5 := bt_at a0 a1
      replace p5 := eq_true p5
      replace q5 := eq_true q5
      go_enter Tryd.func59, Tryd.ntmps59
      go_wp2
      go_ret
      exact ⟨zE, zD⟩
    · rw [if_neg c4] at H
      exact absurd H (by simp)
  · rw [if_neg c3] at H
    have c3b0 : decide (a1 < (a0.size : Int)) = false := decide_eq_false c3
    clear c3
    obtain rfl := Option.some.inj H
    go_enter Tryd.func59, Tryd.ntmps59
    go_wp2
    go_ret
    exact ⟨zE, zD⟩

set_option maxHeartbeats 8000000 in
set_option maxRecDepth 100000 in
theorem budwoodref02_One.calls (k : Nat) (a0 : ByteArray) (r1 : Int) (r2 : Int) (w : World) (h : budwoodref02_One.f k a0 = some (r1, r2)) :
    Calls Tryd.prog 54 #[.string a0] w fun e w' => e = .returned (.tuple #[.int .i64 r1, .int .i64 r2]) ∧ Drawn0 w w' := by
  have H : (if 0 < (a0.size : Int) then (if (wrap64 (bt a0 0)) < 128 then (some (wrap64 (bt a0 0), 1)) else (if (wrap64 (bt a0 0)) ≥ 194 then (if (wrap64 (bt a0 0)) ≤ 223 then ((budwoodref02_more.f a0 1).bind fun t215 => (budwoodref02_One.j0 k a0 (wrap64 (bt a0 0)) t215)) else (budwoodref02_One.j0 k a0 (wrap64 (bt a0 0)) false)) else (budwoodref02_One.j0 k a0 (wrap64 (bt a0 0)) false))) else (none)) = some (r1, r2) := h
  clear h
  by_cases c2 : 0 < (a0.size : Int)
  · rw [if_pos c2] at H
    have c2b0 : decide (0 < (a0.size : Int)) = true := decide_eq_true c2
    have c2b1 : decide (0 < a0.size) = true := decide_eq_true (by omega)
    clear c2
    by_cases c4 : (wrap64 (bt a0 0)) < 128
    · rw [if_pos c4] at H
      have c4b0 : decide ((wrap64 (bt a0 0)) < 128) = true := decide_eq_true c4
      clear c4
      simp only [Option.some.injEq, Prod.mk.injEq] at H
      obtain ⟨rfl, rfl⟩ := H
      have p3 : 0 ≤ (0 : Int) := (by omega)
      have q3 : 0 < a0.size := (by have : (0 : Int) < (a0.size : Int) := of_decide_eq_true (by first | (with_reducible assumption) | assumption); omega)
      have hx3 : ∀ h : 0 < a0.size, ((a0[0]'h).toNat : Int) = bt a0 0 := bt_at a0 0
      clear p3
      have qi3 : (0 < (a0.size : Int)) = True := eq_true (of_decide_eq_true (by first | (with_reducible assumption) | assumption))
      replace q3 := eq_true q3
      go_enter Tryd.func54, Tryd.ntmps54
      go_wp2
      repeat (go_quiet (fail); try go_wp2)
      go_ret2
      exact ⟨zE, zD⟩
    · rw [if_neg c4] at H
      have c4b0 : decide ((wrap64 (bt a0 0)) < 128) = false := decide_eq_false c4
      clear c4
      have HC5 := Aside0.mk H
      clear H
      have p3 : 0 ≤ (0 : Int) := (by omega)
      have q3 : 0 < a0.size := (by have : (0 : Int) < (a0.size : Int) := of_decide_eq_true (by first | (with_reducible assumption) | assumption); omega)
      have hx3 : ∀ h : 0 < a0.size, ((a0[0]'h).toNat : Int) = bt a0 0 := bt_at a0 0
      clear p3
      have qi3 : (0 < (a0.size : Int)) = True := eq_true (of_decide_eq_true (by first | (with_reducible assumption) | assumption))
      replace q3 := eq_true q3
      go_enter Tryd.func54, Tryd.ntmps54
      go_upto_region 4 with (fail)
      repeat (go_quiet (fail); go_upto_region 4 with (fail))
      go_cut [14] (fun v14 wc => ∃ (kq : Nat) (x14_4 : Bool), v14 = .bool x14_4 ∧ Aside0 (budwoodref02_One.j0 kq a0 (wrap64 (bt a0 0)) x14_4 = some (r1, r2)) ∧ Aside0 (kq ≤ k) ∧ Drawn0 w wc)
      case first =>
        have H := HC5.out
        clear HC5
        by_cases c6 : (wrap64 (bt a0 0)) ≥ 194
        · rw [if_pos c6] at H
          have c6b0 : decide (194 ≤ (wrap64 (bt a0 0))) = true := decide_eq_true c6
          clear c6
          (first | rw [c6b0] | (simp only [i64_w, i32_w]; rw [c6b0]) | skip)
          by_cases c7 : (wrap64 (bt a0 0)) ≤ 223
          · rw [if_pos c7] at H
            have c7b0 : decide ((wrap64 (bt a0 0)) ≤ 223) = true := decide_eq_true c7
            clear c7
            replace H := Option.bind_eq_some_iff.mp H
            obtain ⟨t215, A80, H⟩ := H
            replace H : (budwoodref02_One.j0 k a0 (wrap64 (bt a0 0)) t215) = some (r1, r2) := H
            have A8 := Aside0.mk A80
            clear A80
            have H' := Aside0.mk H
            clear H
            go_wp2_with (first | (go_at_call 59; (with_reducible refine (budwoodref02_more.calls a0 1 t215 _ A8.out).mono ?_); rintro e w' ⟨rfl, ⟨nd, rfl⟩⟩; (try exact zQ)))
            repeat (go_quiet (first | (go_at_call 59; (with_reducible refine (budwoodref02_more.calls a0 1 t215 _ A8.out).mono ?_); rintro e w' ⟨rfl, ⟨nd, rfl⟩⟩; (try exact zQ))); try go_wp2_with (first | (go_at_call 59; (with_reducible refine (budwoodref02_more.calls a0 1 t215 _ A8.out).mono ?_); rintro e w' ⟨rfl, ⟨nd, rfl⟩⟩; (try exact zQ))))
            go_meet
            case rel => exact ⟨_, (t215), (zE), H', ⟨by first | omega | exact Nat.le_refl _⟩, zD⟩
          · rw [if_neg c7] at H
            have c7b0 : decide ((wrap64 (bt a0 0)) ≤ 223) = false := decide_eq_false c7
            clear c7
            have H' := Aside0.mk H
            clear H
            go_wp2
            repeat (go_quiet (fail); try go_wp2)
            go_meet
            case rel => exact ⟨_, (false), (zE), H', ⟨by first | omega | exact Nat.le_refl _⟩, zD⟩
        · rw [if_neg c6] at H
          have c6b0 : decide (194 ≤ (wrap64 (bt a0 0))) = false := decide_eq_false c6
          clear c6
          (first | rw [c6b0] | (simp only [i64_w, i32_w]; rw [c6b0]) | skip)
          have H' := Aside0.mk H
          clear H
          go_wp2
          repeat (go_quiet (fail); try go_wp2)
          go_meet
          case rel => exact ⟨_, (false), (zE), H', ⟨by first | omega | exact Nat.le_refl _⟩, zD⟩
      case rest =>
        clear HC5
        try clear c2
        try clear c2b0
        try clear c2b1
        try clear p2
        try clear p3
        try clear q3
        try clear hx3
        try clear qi3
        try clear c4
        try clear c4b0
        try clear c5
        try clear c6
        try clear c6b0
        try clear p6
        try clear c7
        try clear c7b0
        try clear p3
        try clear q3
        obtain ⟨kq, x14_4, rfl, HA, HJ4, ⟨mc4, rfl⟩⟩ := hcut
        cases kq with
        | zero => exact absurd HA.out (by simp [budwoodref02_One.j0])
        | succ kj4 =>
          have H := HA.out
          clear HA
          simp only [budwoodref02_One.j0] at H
          by_cases c9 : x14_4 = true
          · subst c9
            replace H := zT H
            by_cases c10 : 1 < (a0.size : Int)
            · rw [if_pos c10] at H
              have c10b0 : decide (1 < (a0.size : Int)) = true := decide_eq_true c10
              have c10b1 : decide (1 < a0.size) = true := decide_eq_true (by omega)
              clear c10
              simp only [Option.some.injEq, Prod.mk.injEq] at H
              obtain ⟨rfl, rfl⟩ := H
              have p11 : 0 ≤ (1 : Int) := (by omega)
              have q11 : 1 < a0.size := (by have : (1 : Int) < (a0.size : Int) := of_decide_eq_true (by first | (with_reducible assumption) | assumption); omega)
              have hx11 : ∀ h : 1 < a0.size, ((a0[1]'h).toNat : Int) = bt a0 1 := bt_at a0 1
              clear p11
              have qi11 : (1 < (a0.size : Int)) = True := eq_true (of_decide_eq_true (by first | (with_reducible assumption) | assumption))
              replace q11 := eq_true q11
              go_wp2
              repeat (go_quiet (fail); try go_wp2)
              go_ret2
              exact ⟨zE, zD⟩
            · rw [if_neg c10] at H
              exact absurd H (by simp)
          · replace c9 := Bool.eq_false_iff.mpr c9
            subst c9
            replace H := zU H
            have HC12 := Aside0.mk H
            clear H
            go_upto_region 6 with (fail)
            repeat (go_quiet (fail); go_upto_region 6 with (fail))
            go_cut [33] (fun v33 wc => ∃ (kq : Nat) (x33_11 : Bool), v33 = .bool x33_11 ∧ Aside0 (budwoodref02_One.j1 kq a0 (wrap64 (bt a0 0)) x33_11 = some (r1, r2)) ∧ Aside0 (kq ≤ kj4) ∧ Drawn0 w wc)
            case first =>
              have H := HC12.out
              clear HC12
              by_cases c13 : (wrap64 (bt a0 0)) ≥ 224
              · rw [if_pos c13] at H
                have c13b0 : decide (224 ≤ (wrap64 (bt a0 0))) = true := decide_eq_true c13
                clear c13
                (first | rw [c13b0] | (simp only [i64_w, i32_w]; rw [c13b0]) | skip)
                by_cases c14 : (wrap64 (bt a0 0)) ≤ 239
                · rw [if_pos c14] at H
                  have c14b0 : decide ((wrap64 (bt a0 0)) ≤ 239) = true := decide_eq_true c14
                  clear c14
                  replace H := Option.bind_eq_some_iff.mp H
                  obtain ⟨t216, A150, H⟩ := H
                  replace H : (if t216 = true then ((budwoodref02_more.f a0 2).bind fun t217 => (budwoodref02_One.j1 kj4 a0 (wrap64 (bt a0 0)) t217)) else (budwoodref02_One.j1 kj4 a0 (wrap64 (bt a0 0)) false)) = some (r1, r2) := H
                  have A15 := Aside0.mk A150
                  clear A150
                  by_cases c16 : t216 = true
                  · subst c16
                    replace H := zT H
                    replace H := Option.bind_eq_some_iff.mp H
                    obtain ⟨t217, A170, H⟩ := H
                    replace H : (budwoodref02_One.j1 kj4 a0 (wrap64 (bt a0 0)) t217) = some (r1, r2) := H
                    have A17 := Aside0.mk A170
                    clear A170
                    have H' := Aside0.mk H
                    clear H
                    go_wp2_with (first | (go_at_call 59; (with_reducible refine (budwoodref02_more.calls a0 1 true _ A15.out).mono ?_); rintro e w' ⟨rfl, ⟨nd, rfl⟩⟩; (try exact zQ)) | (go_at_call 59; (with_reducible refine (budwoodref02_more.calls a0 2 t217 _ A17.out).mono ?_); rintro e w' ⟨rfl, ⟨nd, rfl⟩⟩; (try exact zQ)))
                    repeat (go_quiet (first | (go_at_call 59; (with_reducible refine (budwoodref02_more.calls a0 1 true _ A15.out).mono ?_); rintro e w' ⟨rfl, ⟨nd, rfl⟩⟩; (try exact zQ)) | (go_at_call 59; (with_reducible refine (budwoodref02_more.calls a0 2 t217 _ A17.out).mono ?_); rintro e w' ⟨rfl, ⟨nd, rfl⟩⟩; (try exact zQ))); try go_wp2_with (first | (go_at_call 59; (with_reducible refine (budwoodref02_more.calls a0 1 true _ A15.out).mono ?_); rintro e w' ⟨rfl, ⟨nd, rfl⟩⟩; (try exact zQ)) | (go_at_call 59; (with_reducible refine (budwoodref02_more.calls a0 2 t217 _ A17.out).mono ?_); rintro e w' ⟨rfl, ⟨nd, rfl⟩⟩; (try exact zQ))))
                    go_meet
                    case rel => exact ⟨_, (t217), (zE), H', ⟨by have := HJ4.out; first | omega | exact Nat.le_refl _⟩, zD⟩
                  · replace c16 := Bool.eq_false_iff.mpr c16
                    subst c16
                    replace H := zU H
                    have H' := Aside0.mk H
                    clear H
                    go_wp2_with (first | (go_at_call 59; (with_reducible refine (budwoodref02_more.calls a0 1 false _ A15.out).mono ?_); rintro e w' ⟨rfl, ⟨nd, rfl⟩⟩; (try exact zQ)))
                    repeat (go_quiet (first | (go_at_call 59; (with_reducible refine (budwoodref02_more.calls a0 1 false _ A15.out).mono ?_); rintro e w' ⟨rfl, ⟨nd, rfl⟩⟩; (try exact zQ))); try go_wp2_with (first | (go_at_call 59; (with_reducible refine (budwoodref02_more.calls a0 1 false _ A15.out).mono ?_); rintro e w' ⟨rfl, ⟨nd, rfl⟩⟩; (try exact zQ))))
                    go_meet
                    case rel => exact ⟨_, (false), (zE), H', ⟨by have := HJ4.out; first | omega | exact Nat.le_refl _⟩, zD⟩
                · rw [if_neg c14] at H
                  have c14b0 : decide ((wrap64 (bt a0 0)) ≤ 239) = false := decide_eq_false c14
                  clear c14
                  have H' := Aside0.mk H
                  clear H
                  go_wp2
                  repeat (go_quiet (fail); try go_wp2)
                  go_meet
                  case rel => exact ⟨_, (false), (zE), H', ⟨by have := HJ4.out; first | omega | exact Nat.le_refl _⟩, zD⟩
              · rw [if_neg c13] at H
                have c13b0 : decide (224 ≤ (wrap64 (bt a0 0))) = false := decide_eq_false c13
                clear c13
                (first | rw [c13b0] | (simp only [i64_w, i32_w]; rw [c13b0]) | skip)
                have H' := Aside0.mk H
                clear H
                go_wp2
                repeat (go_quiet (fail); try go_wp2)
                go_meet
                case rel => exact ⟨_, (false), (zE), H', ⟨by have := HJ4.out; first | omega | exact Nat.le_refl _⟩, zD⟩
            case rest =>
              clear HC12
              try clear c1
              try clear p1
              try clear q1
              try clear hx1
              try clear qi1
              try clear c2
              try clear c2b0
              try clear c2b1
              try clear p2
              try clear p3
              try clear q3
              try clear hx3
              try clear qi3
              try clear c4
              try clear c4b0
              try clear c5
              try clear c6
              try clear c6b0
              try clear p6
              try clear c7
              try clear c7b0
              try clear c9
              try clear c10
              try clear c10b0
              try clear c10b1
              try clear p11
              try clear q11
              try clear hx11
              try clear qi11
              try clear c13
              try clear c13b0
              try clear c14
              try clear c14b0
              try clear c16
              try clear p11
              try clear p2
              try clear p3
              try clear p6
              try clear q11
              try clear q3
              obtain ⟨kq, x33_11, rfl, HA, HJ11, ⟨mc11, rfl⟩⟩ := hcut
              cases kq with
              | zero => exact absurd HA.out (by simp [budwoodref02_One.j1])
              | succ kj11 =>
                have H := HA.out
                clear HA
                simp only [budwoodref02_One.j1] at H
                by_cases c18 : x33_11 = true
                · subst c18
                  replace H := zT H
                  by_cases c19 : 1 < (a0.size : Int)
                  · rw [if_pos c19] at H
                    have c19b0 : decide (1 < (a0.size : Int)) = true := decide_eq_true c19
                    have c19b1 : decide (1 < a0.size) = true := decide_eq_true (by omega)
                    clear c19
                    by_cases c21 : 2 < (a0.size : Int)
                    · rw [if_pos c21] at H
                      have c21b0 : decide (2 < (a0.size : Int)) = true := decide_eq_true c21
                      have c21b1 : decide (2 < a0.size) = true := decide_eq_true (by omega)
                      clear c21
                      by_cases c23 : (Go.bits .or .i64 (Go.bits .or .i64 (wrap64 ((Go.bits .and .i64 (wrap64 (bt a0 0)) 15) * 4096)) (wrap64 ((wrap64 (Go.bits .and .u8 (bt a0 1) 63)) * 64))) (wrap64 (Go.bits .and .u8 (bt a0 2) 63))) ≥ 2048
                      · rw [if_pos c23] at H
                        have c23b0 : decide (2048 ≤ (Go.bits .or .i64 (Go.bits .or .i64 (wrap64 ((Go.bits .and .i64 (wrap64 (bt a0 0)) 15) * 4096)) (wrap64 ((wrap64 (Go.bits .and .u8 (bt a0 1) 63)) * 64))) (wrap64 (Go.bits .and .u8 (bt a0 2) 63)))) = true := decide_eq_true c23
                        clear c23
                        by_cases c24 : (Go.bits .or .i64 (Go.bits .or .i64 (wrap64 ((Go.bits .and .i64 (wrap64 (bt a0 0)) 15) * 4096)) (wrap64 ((wrap64 (Go.bits .and .u8 (bt a0 1) 63)) * 64))) (wrap64 (Go.bits .and .u8 (bt a0 2) 63))) < 55296
                        · rw [if_pos c24] at H
                          have c24b0 : decide ((Go.bits .or .i64 (Go.bits .or .i64 (wrap64 ((Go.bits .and .i64 (wrap64 (bt a0 0)) 15) * 4096)) (wrap64 ((wrap64 (Go.bits .and .u8 (bt a0 1) 63)) * 64))) (wrap64 (Go.bits .and .u8 (bt a0 2) 63))) < 55296) = true := decide_eq_true c24
                          clear c24
                          simp only [Option.some.injEq, Prod.mk.injEq] at H
                          obtain ⟨rfl, rfl⟩ := H
                          have p20 : 0 ≤ (1 : Int) := (by omega)
                          have q20 : 1 < a0.size := (by have : (1 : Int) < (a0.size : Int) := of_decide_eq_true (by first | (with_reducible assumption) | assumption); omega)
                          have hx20 : ∀ h : 1 < a0.size, ((a0[1]'h).toNat : Int) = bt a0 1 := bt_at a0 1
                          clear p20
                          have qi20 : (1 < (a0.size : Int)) = True := eq_true (of_decide_eq_true (by first | (with_reducible assumption) | assumption))
                          replace q20 := eq_true q20
                          have p22 : 0 ≤ (2 : Int) := (by omega)
                          have q22 : 2 < a0.size := (by have : (2 : Int) < (a0.size : Int) := of_decide_eq_true (by first | (with_reducible assumption) | assumption); omega)
                          have hx22 : ∀ h : 2 < a0.size, ((a0[2]'h).toNat : Int) = bt a0 2 := bt_at a0 2
                          clear p22
                          have qi22 : (2 < (a0.size : Int)) = True := eq_true (of_decide_eq_true (by first | (with_reducible assumption) | assumption))
                          replace q22 := eq_true q22
                          go_wp2
                          repeat (go_quiet (fail); try go_wp2)
                          go_ret2
                          exact ⟨zE, zD⟩
                        · rw [if_neg c24] at H
                          have c24b0 : decide ((Go.bits .or .i64 (Go.bits .or .i64 (wrap64 ((Go.bits .and .i64 (wrap64 (bt a0 0)) 15) * 4096)) (wrap64 ((wrap64 (Go.bits .and .u8 (bt a0 1) 63)) * 64))) (wrap64 (Go.bits .and .u8 (bt a0 2) 63))) < 55296) = false := decide_eq_false c24
                          clear c24
                          by_cases c25 : (Go.bits .or .i64 (Go.bits .or .i64 (wrap64 ((Go.bits .and .i64 (wrap64 (bt a0 0)) 15) * 4096)) (wrap64 ((wrap64 (Go.bits .and .u8 (bt a0 1) 63)) * 64))) (wrap64 (Go.bits .and .u8 (bt a0 2) 63))) > 57343
                          · rw [if_pos c25] at H
                            have c25b0 : decide (57343 < (Go.bits .or .i64 (Go.bits .or .i64 (wrap64 ((Go.bits .and .i64 (wrap64 (bt a0 0)) 15) * 4096)) (wrap64 ((wrap64 (Go.bits .and .u8 (bt a0 1) 63)) * 64))) (wrap64 (Go.bits .and .u8 (bt a0 2) 63)))) = true := decide_eq_true c25
                            clear c25
                            simp only [Option.some.injEq, Prod.mk.injEq] at H
                            obtain ⟨rfl, rfl⟩ := H
                            have p20 : 0 ≤ (1 : Int) := (by omega)
                            have q20 : 1 < a0.size := (by have : (1 : Int) < (a0.size : Int) := of_decide_eq_true (by first | (with_reducible assumption) | assumption); omega)
                            have hx20 : ∀ h : 1 < a0.size, ((a0[1]'h).toNat : Int) = bt a0 1 := bt_at a0 1
                            clear p20
                            have qi20 : (1 < (a0.size : Int)) = True := eq_true (of_decide_eq_true (by first | (with_reducible assumption) | assumption))
                            replace q20 := eq_true q20
                            have p22 : 0 ≤ (2 : Int) := (by omega)
                            have q22 : 2 < a0.size := (by have : (2 : Int) < (a0.size : Int) := of_decide_eq_true (by first | (with_reducible assumption) | assumption); omega)
                            have hx22 : ∀ h : 2 < a0.size, ((a0[2]'h).toNat : Int) = bt a0 2 := bt_at a0 2
                            clear p22
                            have qi22 : (2 < (a0.size : Int)) = True := eq_true (of_decide_eq_true (by first | (with_reducible assumption) | assumption))
                            replace q22 := eq_true q22
                            go_wp2
                            repeat (go_quiet (fail); try go_wp2)
                            go_ret2
                            exact ⟨zE, zD⟩
                          · rw [if_neg c25] at H
                            have c25b0 : decide (57343 < (Go.bits .or .i64 (Go.bits .or .i64 (wrap64 ((Go.bits .and .i64 (wrap64 (bt a0 0)) 15) * 4096)) (wrap64 ((wrap64 (Go.bits .and .u8 (bt a0 1) 63)) * 64))) (wrap64 (Go.bits .and .u8 (bt a0 2) 63)))) = false := decide_eq_false c25
                            clear c25
                            simp only [Option.some.injEq, Prod.mk.injEq] at H
                            obtain ⟨rfl, rfl⟩ := H
                            have p20 : 0 ≤ (1 : Int) := (by omega)
                            have q20 : 1 < a0.size := (by have : (1 : Int) < (a0.size : Int) := of_decide_eq_true (by first | (with_reducible assumption) | assumption); omega)
                            have hx20 : ∀ h : 1 < a0.size, ((a0[1]'h).toNat : Int) = bt a0 1 := bt_at a0 1
                            clear p20
                            have qi20 : (1 < (a0.size : Int)) = True := eq_true (of_decide_eq_true (by first | (with_reducible assumption) | assumption))
                            replace q20 := eq_true q20
                            have p22 : 0 ≤ (2 : Int) := (by omega)
                            have q22 : 2 < a0.size := (by have : (2 : Int) < (a0.size : Int) := of_decide_eq_true (by first | (with_reducible assumption) | assumption); omega)
                            have hx22 : ∀ h : 2 < a0.size, ((a0[2]'h).toNat : Int) = bt a0 2 := bt_at a0 2
                            clear p22
                            have qi22 : (2 < (a0.size : Int)) = True := eq_true (of_decide_eq_true (by first | (with_reducible assumption) | assumption))
                            replace q22 := eq_true q22
                            go_wp2
                            repeat (go_quiet (fail); try go_wp2)
                            go_ret2
                            exact ⟨zE, zD⟩
                      · rw [if_neg c23] at H
                        have c23b0 : decide (2048 ≤ (Go.bits .or .i64 (Go.bits .or .i64 (wrap64 ((Go.bits .and .i64 (wrap64 (bt a0 0)) 15) * 4096)) (wrap64 ((wrap64 (Go.bits .and .u8 (bt a0 1) 63)) * 64))) (wrap64 (Go.bits .and .u8 (bt a0 2) 63)))) = false := decide_eq_false c23
                        clear c23
                        simp only [Option.some.injEq, Prod.mk.injEq] at H
                        obtain ⟨rfl, rfl⟩ := H
                        have p20 : 0 ≤ (1 : Int) := (by omega)
                        have q20 : 1 < a0.size := (by have : (1 : Int) < (a0.size : Int) := of_decide_eq_true (by first | (with_reducible assumption) | assumption); omega)
                        have hx20 : ∀ h : 1 < a0.size, ((a0[1]'h).toNat : Int) = bt a0 1 := bt_at a0 1
                        clear p20
                        have qi20 : (1 < (a0.size : Int)) = True := eq_true (of_decide_eq_true (by first | (with_reducible assumption) | assumption))
                        replace q20 := eq_true q20
                        have p22 : 0 ≤ (2 : Int) := (by omega)
                        have q22 : 2 < a0.size := (by have : (2 : Int) < (a0.size : Int) := of_decide_eq_true (by first | (with_reducible assumption) | assumption); omega)
                        have hx22 : ∀ h : 2 < a0.size, ((a0[2]'h).toNat : Int) = bt a0 2 := bt_at a0 2
                        clear p22
                        have qi22 : (2 < (a0.size : Int)) = True := eq_true (of_decide_eq_true (by first | (with_reducible assumption) | assumption))
                        replace q22 := eq_true q22
                        go_wp2
                        repeat (go_quiet (fail); try go_wp2)
                        go_ret2
                        exact ⟨zE, zD⟩
                    · rw [if_neg c21] at H
                      exact absurd H (by simp)
                  · rw [if_neg c19] at H
                    exact absurd H (by simp)
                · replace c18 := Bool.eq_false_iff.mpr c18
                  subst c18
                  replace H := zU H
                  have HC26 := Aside0.mk H
                  clear H
                  go_upto_region 10 with (fail)
                  repeat (go_quiet (fail); go_upto_region 10 with (fail))
                  go_cut [73] (fun v73 wc => ∃ (kq : Nat) (x73_25 : Bool), v73 = .bool x73_25 ∧ Aside0 (budwoodref02_One.j2 kq a0 (wrap64 (bt a0 0)) x73_25 = some (r1, r2)) ∧ Aside0 (kq ≤ kj11) ∧ Drawn0 w wc)
                  case first =>
                    have H := HC26.out
                    clear HC26
                    by_cases c27 : (wrap64 (bt a0 0)) ≥ 240
                    · rw [if_pos c27] at H
                      have c27b0 : decide (240 ≤ (wrap64 (bt a0 0))) = true := decide_eq_true c27
                      clear c27
                      (first | rw [c27b0] | (simp only [i64_w, i32_w]; rw [c27b0]) | skip)
                      by_cases c28 : (wrap64 (bt a0 0)) ≤ 244
                      · rw [if_pos c28] at H
                        have c28b0 : decide ((wrap64 (bt a0 0)) ≤ 244) = true := decide_eq_true c28
                        clear c28
                        replace H := Option.bind_eq_some_iff.mp H
                        obtain ⟨t218, A290, H⟩ := H
                        replace H : (if t218 = true then ((budwoodref02_more.f a0 2).bind fun t219 => (if t219 = true then ((budwoodref02_more.f a0 3).bind fun t220 => (budwoodref02_One.j2 kj11 a0 (wrap64 (bt a0 0)) t220)) else (budwoodref02_One.j2 kj11 a0 (wrap64 (bt a0 0)) false))) else (budwoodref02_One.j2 kj11 a0 (wrap64 (bt a0 0)) false)) = some (r1, r2) := H
                        have A29 := Aside0.mk A290
                        clear A290
                        by_cases c30 : t218 = true
                        · subst c30
                          replace H := zT H
                          replace H := Option.bind_eq_some_iff.mp H
                          obtain ⟨t219, A310, H⟩ := H
                          replace H : (if t219 = true then ((budwoodref02_more.f a0 3).bind fun t220 => (budwoodref02_One.j2 kj11 a0 (wrap64 (bt a0 0)) t220)) else (budwoodref02_One.j2 kj11 a0 (wrap64 (bt a0 0)) false)) = some (r1, r2) := H
                          have A31 := Aside0.mk A310
                          clear A310
                          by_cases c32 : t219 = true
                          · subst c32
                            replace H := zT H
                            replace H := Option.bind_eq_some_iff.mp H
                            obtain ⟨t220, A330, H⟩ := H
                            replace H : (budwoodref02_One.j2 kj11 a0 (wrap64 (bt a0 0)) t220) = some (r1, r2) := H
                            have A33 := Aside0.mk A330
                            clear A330
                            have H' := Aside0.mk H
                            clear H
                            go_wp2_with (first | (go_at_call 59; (with_reducible refine (budwoodref02_more.calls a0 1 true _ A29.out).mono ?_); rintro e w' ⟨rfl, ⟨nd, rfl⟩⟩; (try exact zQ)) | (go_at_call 59; (with_reducible refine (budwoodref02_more.calls a0 2 true _ A31.out).mono ?_); rintro e w' ⟨rfl, ⟨nd, rfl⟩⟩; (try exact zQ)) | (go_at_call 59; (with_reducible refine (budwoodref02_more.calls a0 3 t220 _ A33.out).mono ?_); rintro e w' ⟨rfl, ⟨nd, rfl⟩⟩; (try exact zQ)))
                            repeat (go_quiet (first | (go_at_call 59; (with_reducible refine (budwoodref02_more.calls a0 1 true _ A29.out).mono ?_); rintro e w' ⟨rfl, ⟨nd, rfl⟩⟩; (try exact zQ)) | (go_at_call 59; (with_reducible refine (budwoodref02_more.calls a0 2 true _ A31.out).mono ?_); rintro e w' ⟨rfl, ⟨nd, rfl⟩⟩; (try exact zQ)) | (go_at_call 59; (with_reducible refine (budwoodref02_more.calls a0 3 t220 _ A33.out).mono ?_); rintro e w' ⟨rfl, ⟨nd, rfl⟩⟩; (try exact zQ))); try go_wp2_with (first | (go_at_call 59; (with_reducible refine (budwoodref02_more.calls a0 1 true _ A29.out).mono ?_); rintro e w' ⟨rfl, ⟨nd, rfl⟩⟩; (try exact zQ)) | (go_at_call 59; (with_reducible refine (budwoodref02_more.calls a0 2 true _ A31.out).mono ?_); rintro e w' ⟨rfl, ⟨nd, rfl⟩⟩; (try exact zQ)) | (go_at_call 59; (with_reducible refine (budwoodref02_more.calls a0 3 t220 _ A33.out).mono ?_); rintro e w' ⟨rfl, ⟨nd, rfl⟩⟩; (try exact zQ))))
                            go_meet
                            case rel => exact ⟨_, (t220), (zE), H', ⟨by have := HJ4.out; have := HJ11.out; first | omega | exact Nat.le_refl _⟩, zD⟩
                          · replace c32 := Bool.eq_false_iff.mpr c32
                            subst c32
                            replace H := zU H
                            have H' := Aside0.mk H
                            clear H
                            go_wp2_with (first | (go_at_call 59; (with_reducible refine (budwoodref02_more.calls a0 1 true _ A29.out).mono ?_); rintro e w' ⟨rfl, ⟨nd, rfl⟩⟩; (try exact zQ)) | (go_at_call 59; (with_reducible refine (budwoodref02_more.calls a0 2 false _ A31.out).mono ?_); rintro e w' ⟨rfl, ⟨nd, rfl⟩⟩; (try exact zQ)))
                            repeat (go_quiet (first | (go_at_call 59; (with_reducible refine (budwoodref02_more.calls a0 1 true _ A29.out).mono ?_); rintro e w' ⟨rfl, ⟨nd, rfl⟩⟩; (try exact zQ)) | (go_at_call 59; (with_reducible refine (budwoodref02_more.calls a0 2 false _ A31.out).mono ?_); rintro e w' ⟨rfl, ⟨nd, rfl⟩⟩; (try exact zQ))); try go_wp2_with (first | (go_at_call 59; (with_reducible refine (budwoodref02_more.calls a0 1 true _ A29.out).mono ?_); rintro e w' ⟨rfl, ⟨nd, rfl⟩⟩; (try exact zQ)) | (go_at_call 59; (with_reducible refine (budwoodref02_more.calls a0 2 false _ A31.out).mono ?_); rintro e w' ⟨rfl, ⟨nd, rfl⟩⟩; (try exact zQ))))
                            go_meet
                            case rel => exact ⟨_, (false), (zE), H', ⟨by have := HJ4.out; have := HJ11.out; first | omega | exact Nat.le_refl _⟩, zD⟩
                        · replace c30 := Bool.eq_false_iff.mpr c30
                          subst c30
                          replace H := zU H
                          have H' := Aside0.mk H
                          clear H
                          go_wp2_with (first | (go_at_call 59; (with_reducible refine (budwoodref02_more.calls a0 1 false _ A29.out).mono ?_); rintro e w' ⟨rfl, ⟨nd, rfl⟩⟩; (try exact zQ)))
                          repeat (go_quiet (first | (go_at_call 59; (with_reducible refine (budwoodref02_more.calls a0 1 false _ A29.out).mono ?_); rintro e w' ⟨rfl, ⟨nd, rfl⟩⟩; (try exact zQ))); try go_wp2_with (first | (go_at_call 59; (with_reducible refine (budwoodref02_more.calls a0 1 false _ A29.out).mono ?_); rintro e w' ⟨rfl, ⟨nd, rfl⟩⟩; (try exact zQ))))
                          go_meet
                          case rel => exact ⟨_, (false), (zE), H', ⟨by have := HJ4.out; have := HJ11.out; first | omega | exact Nat.le_refl _⟩, zD⟩
                      · rw [if_neg c28] at H
                        have c28b0 : decide ((wrap64 (bt a0 0)) ≤ 244) = false := decide_eq_false c28
                        clear c28
                        have H' := Aside0.mk H
                        clear H
                        go_wp2
                        repeat (go_quiet (fail); try go_wp2)
                        go_meet
                        case rel => exact ⟨_, (false), (zE), H', ⟨by have := HJ4.out; have := HJ11.out; first | omega | exact Nat.le_refl _⟩, zD⟩
                    · rw [if_neg c27] at H
                      have c27b0 : decide (240 ≤ (wrap64 (bt a0 0))) = false := decide_eq_false c27
                      clear c27
                      (first | rw [c27b0] | (simp only [i64_w, i32_w]; rw [c27b0]) | skip)
                      have H' := Aside0.mk H
                      clear H
                      go_wp2
                      repeat (go_quiet (fail); try go_wp2)
                      go_meet
                      case rel => exact ⟨_, (false), (zE), H', ⟨by have := HJ4.out; have := HJ11.out; first | omega | exact Nat.le_refl _⟩, zD⟩
                  case rest =>
                    clear HC26
                    try clear c1
                    try clear p1
                    try clear q1
                    try clear hx1
                    try clear qi1
                    try clear c2
                    try clear c2b0
                    try clear c2b1
                    try clear p2
                    try clear q2
                    try clear hx2
                    try clear qi2
                    try clear c3
                    try clear p3
                    try clear q3
                    try clear hx3
                    try clear qi3
                    try clear c4
                    try clear c4b0
                    try clear c5
                    try clear c6
                    try clear c6b0
                    try clear p6
                    try clear c7
                    try clear c7b0
                    try clear c9
                    try clear c10
                    try clear c10b0
                    try clear c10b1
                    try clear c11
                    try clear p11
                    try clear q11
                    try clear hx11
                    try clear qi11
                    try clear c13
                    try clear c13b0
                    try clear c14
                    try clear c14b0
                    try clear c16
                    try clear c18
                    try clear c19
                    try clear c19b0
                    try clear c19b1
                    try clear p20
                    try clear q20
                    try clear hx20
                    try clear qi20
                    try clear c21
                    try clear c21b0
                    try clear c21b1
                    try clear p22
                    try clear q22
                    try clear hx22
                    try clear qi22
                    try clear c23
                    try clear c23b0
                    try clear c24
                    try clear c24b0
                    try clear c25
                    try clear c25b0
                    try clear c27
                    try clear c27b0
                    try clear c28
                    try clear c28b0
                    try clear c30
                    try clear c32
                    try clear p1
                    try clear p11
                    try clear p2
                    try clear p20
                    try clear p22
                    try clear p3
                    try clear p6
                    try clear q1
                    try clear q11
                    try clear q20
                    try clear q22
                    try clear q3
                    obtain ⟨kq, x73_25, rfl, HA, HJ25, ⟨mc25, rfl⟩⟩ := hcut
                    cases kq with
                    | zero => exact absurd HA.out (by simp [budwoodref02_One.j2])
                    | succ kj25 =>
                      have H := HA.out
                      clear HA
                      simp only [budwoodref02_One.j2] at H
                      by_cases c34 : x73_25 = true
                      · subst c34
                        replace H := zT H
                        by_cases c35 : 1 < (a0.size : Int)
                        · rw [if_pos c35] at H
                          have c35b0 : decide (1 < (a0.size : Int)) = true := decide_eq_true c35
                          have c35b1 : decide (1 < a0.size) = true := decide_eq_true (by omega)
                          clear c35
                          by_cases c37 : 2 < (a0.size : Int)
                          · rw [if_pos c37] at H
                            have c37b0 : decide (2 < (a0.size : Int)) = true := decide_eq_true c37
                            have c37b1 : decide (2 < a0.size) = true := decide_eq_true (by omega)
                            clear c37
                            by_cases c39 : 3 < (a0.size : Int)
                            · rw [if_pos c39] at H
                              have c39b0 : decide (3 < (a0.size : Int)) = true := decide_eq_true c39
                              have c39b1 : decide (3 < a0.size) = true := decide_eq_true (by omega)
                              clear c39
                              by_cases c41 : (Go.bits .or .i64 (Go.bits .or .i64 (Go.bits .or .i64 (wrap64 ((Go.bits .and .i64 (wrap64 (bt a0 0)) 7) * 262144)) (wrap64 ((wrap64 (Go.bits .and .u8 (bt a0 1) 63)) * 4096))) (wrap64 ((wrap64 (Go.bits .and .u8 (bt a0 2) 63)) * 64))) (wrap64 (Go.bits .and .u8 (bt a0 3) 63))) ≥ 65536
                              · rw [if_pos c41] at H
                                have c41b0 : decide (65536 ≤ (Go.bits .or .i64 (Go.bits .or .i64 (Go.bits .or .i64 (wrap64 ((Go.bits .and .i64 (wrap64 (bt a0 0)) 7) * 262144)) (wrap64 ((wrap64 (Go.bits .and .u8 (bt a0 1) 63)) * 4096))) (wrap64 ((wrap64 (Go.bits .and .u8 (bt a0 2) 63)) * 64))) (wrap64 (Go.bits .and .u8 (bt a0 3) 63)))) = true := decide_eq_true c41
                                clear c41
                                by_cases c42 : (Go.bits .or .i64 (Go.bits .or .i64 (Go.bits .or .i64 (wrap64 ((Go.bits .and .i64 (wrap64 (bt a0 0)) 7) * 262144)) (wrap64 ((wrap64 (Go.bits .and .u8 (bt a0 1) 63)) * 4096))) (wrap64 ((wrap64 (Go.bits .and .u8 (bt a0 2) 63)) * 64))) (wrap64 (Go.bits .and .u8 (bt a0 3) 63))) ≤ 1114111
                                · rw [if_pos c42] at H
                                  have c42b0 : decide ((Go.bits .or .i64 (Go.bits .or .i64 (Go.bits .or .i64 (wrap64 ((Go.bits .and .i64 (wrap64 (bt a0 0)) 7) * 262144)) (wrap64 ((wrap64 (Go.bits .and .u8 (bt a0 1) 63)) * 4096))) (wrap64 ((wrap64 (Go.bits .and .u8 (bt a0 2) 63)) * 64))) (wrap64 (Go.bits .and .u8 (bt a0 3) 63))) ≤ 1114111) = true := decide_eq_true c42
                                  clear c42
                                  simp only [Option.some.injEq, Prod.mk.injEq] at H
                                  obtain ⟨rfl, rfl⟩ := H
                                  have p36 : 0 ≤ (1 : Int) := (by omega)
                                  have q36 : 1 < a0.size := (by have : (1 : Int) < (a0.size : Int) := of_decide_eq_true (by first | (with_reducible assumption) | assumption); omega)
                                  have hx36 : ∀ h : 1 < a0.size, ((a0[1]'h).toNat : Int) = bt a0 1 := bt_at a0 1
                                  clear p36
                                  have qi36 : (1 < (a0.size : Int)) = True := eq_true (of_decide_eq_true (by first | (with_reducible assumption) | assumption))
                                  replace q36 := eq_true q36
                                  have p38 : 0 ≤ (2 : Int) := (by omega)
                                  have q38 : 2 < a0.size := (by have : (2 : Int) < (a0.size : Int) := of_decide_eq_true (by first | (with_reducible assumption) | assumption); omega)
                                  have hx38 : ∀ h : 2 < a0.size, ((a0[2]'h).toNat : Int) = bt a0 2 := bt_at a0 2
                                  clear p38
                                  have qi38 : (2 < (a0.size : Int)) = True := eq_true (of_decide_eq_true (by first | (with_reducible assumption) | assumption))
                                  replace q38 := eq_true q38
                                  have p40 : 0 ≤ (3 : Int) := (by omega)
                                  have q40 : 3 < a0.size := (by have : (3 : Int) < (a0.size : Int) := of_decide_eq_true (by first | (with_reducible assumption) | assumption); omega)
                                  have hx40 : ∀ h : 3 < a0.size, ((a0[3]'h).toNat : Int) = bt a0 3 := bt_at a0 3
                                  clear p40
                                  have qi40 : (3 < (a0.size : Int)) = True := eq_true (of_decide_eq_true (by first | (with_reducible assumption) | assumption))
                                  replace q40 := eq_true q40
                                  go_wp2
                                  repeat (go_quiet (fail); try go_wp2)
                                  go_ret2
                                  exact ⟨zE, zD⟩
                                · rw [if_neg c42] at H
                                  have c42b0 : decide ((Go.bits .or .i64 (Go.bits .or .i64 (Go.bits .or .i64 (wrap64 ((Go.bits .and .i64 (wrap64 (bt a0 0)) 7) * 262144)) (wrap64 ((wrap64 (Go.bits .and .u8 (bt a0 1) 63)) * 4096))) (wrap64 ((wrap64 (Go.bits .and .u8 (bt a0 2) 63)) * 64))) (wrap64 (Go.bits .and .u8 (bt a0 3) 63))) ≤ 1114111) = false := decide_eq_false c42
                                  clear c42
                                  simp only [Option.some.injEq, Prod.mk.injEq] at H
                                  obtain ⟨rfl, rfl⟩ := H
                                  have p36 : 0 ≤ (1 : Int) := (by omega)
                                  have q36 : 1 < a0.size := (by have : (1 : Int) < (a0.size : Int) := of_decide_eq_true (by first | (with_reducible assumption) | assumption); omega)
                                  have hx36 : ∀ h : 1 < a0.size, ((a0[1]'h).toNat : Int) = bt a0 1 := bt_at a0 1
                                  clear p36
                                  have qi36 : (1 < (a0.size : Int)) = True := eq_true (of_decide_eq_true (by first | (with_reducible assumption) | assumption))
                                  replace q36 := eq_true q36
                                  have p38 : 0 ≤ (2 : Int) := (by omega)
                                  have q38 : 2 < a0.size := (by have : (2 : Int) < (a0.size : Int) := of_decide_eq_true (by first | (with_reducible assumption) | assumption); omega)
                                  have hx38 : ∀ h : 2 < a0.size, ((a0[2]'h).toNat : Int) = bt a0 2 := bt_at a0 2
                                  clear p38
                                  have qi38 : (2 < (a0.size : Int)) = True := eq_true (of_decide_eq_true (by first | (with_reducible assumption) | assumption))
                                  replace q38 := eq_true q38
                                  have p40 : 0 ≤ (3 : Int) := (by omega)
                                  have q40 : 3 < a0.size := (by have : (3 : Int) < (a0.size : Int) := of_decide_eq_true (by first | (with_reducible assumption) | assumption); omega)
                                  have hx40 : ∀ h : 3 < a0.size, ((a0[3]'h).toNat : Int) = bt a0 3 := bt_at a0 3
                                  clear p40
                                  have qi40 : (3 < (a0.size : Int)) = True := eq_true (of_decide_eq_true (by first | (with_reducible assumption) | assumption))
                                  replace q40 := eq_true q40
                                  go_wp2
                                  repeat (go_quiet (fail); try go_wp2)
                                  go_ret2
                                  exact ⟨zE, zD⟩
                              · rw [if_neg c41] at H
                                have c41b0 : decide (65536 ≤ (Go.bits .or .i64 (Go.bits .or .i64 (Go.bits .or .i64 (wrap64 ((Go.bits .and .i64 (wrap64 (bt a0 0)) 7) * 262144)) (wrap64 ((wrap64 (Go.bits .and .u8 (bt a0 1) 63)) * 4096))) (wrap64 ((wrap64 (Go.bits .and .u8 (bt a0 2) 63)) * 64))) (wrap64 (Go.bits .and .u8 (bt a0 3) 63)))) = false := decide_eq_false c41
                                clear c41
                                simp only [Option.some.injEq, Prod.mk.injEq] at H
                                obtain ⟨rfl, rfl⟩ := H
                                have p36 : 0 ≤ (1 : Int) := (by omega)
                                have q36 : 1 < a0.size := (by have : (1 : Int) < (a0.size : Int) := of_decide_eq_true (by first | (with_reducible assumption) | assumption); omega)
                                have hx36 : ∀ h : 1 < a0.size, ((a0[1]'h).toNat : Int) = bt a0 1 := bt_at a0 1
                                clear p36
                                have qi36 : (1 < (a0.size : Int)) = True := eq_true (of_decide_eq_true (by first | (with_reducible assumption) | assumption))
                                replace q36 := eq_true q36
                                have p38 : 0 ≤ (2 : Int) := (by omega)
                                have q38 : 2 < a0.size := (by have : (2 : Int) < (a0.size : Int) := of_decide_eq_true (by first | (with_reducible assumption) | assumption); omega)
                                have hx38 : ∀ h : 2 < a0.size, ((a0[2]'h).toNat : Int) = bt a0 2 := bt_at a0 2
                                clear p38
                                have qi38 : (2 < (a0.size : Int)) = True := eq_true (of_decide_eq_true (by first | (with_reducible assumption) | assumption))
                                replace q38 := eq_true q38
                                have p40 : 0 ≤ (3 : Int) := (by omega)
                                have q40 : 3 < a0.size := (by have : (3 : Int) < (a0.size : Int) := of_decide_eq_true (by first | (with_reducible assumption) | assumption); omega)
                                have hx40 : ∀ h : 3 < a0.size, ((a0[3]'h).toNat : Int) = bt a0 3 := bt_at a0 3
                                clear p40
                                have qi40 : (3 < (a0.size : Int)) = True := eq_true (of_decide_eq_true (by first | (with_reducible assumption) | assumption))
                                replace q40 := eq_true q40
                                go_wp2
                                repeat (go_quiet (fail); try go_wp2)
                                go_ret2
                                exact ⟨zE, zD⟩
                            · rw [if_neg c39] at H
                              exact absurd H (by simp)
                          · rw [if_neg c37] at H
                            exact absurd H (by simp)
                        · rw [if_neg c35] at H
                          exact absurd H (by simp)
                      · replace c34 := Bool.eq_false_iff.mpr c34
                        subst c34
                        replace H := zU H
                        simp only [Option.some.injEq, Prod.mk.injEq] at H
                        obtain ⟨rfl, rfl⟩ := H
                        go_wp2
                        repeat (go_quiet (fail); try go_wp2)
                        go_ret2
                        exact ⟨zE, zD⟩
  · rw [if_neg c2] at H
    exact absurd H (by simp)

/-! ### budwoodref02_List: function 49 -/
set_option maxHeartbeats 8000000 in
set_option maxRecDepth 100000 in
theorem budwoodref02_List.calls (k : Nat) (a0 : ByteArray) (r : List Int) (w : World) (h : budwoodref02_List.f k a0 = some r) :
    Calls Tryd.prog 49 #[.string a0] w fun e w' => ∃ v0_ : Value, e = .returned (v0_) ∧ Kd.R (Kd.int .i64) 3 w' w.heap.size (fun _ => True) v0_ r ∧ Below w.heap.size w w' := by
  have HB := Aside0.mk (Below.refl w.heap.size w)
  have H : (budwoodref02_List.l0 k a0 ([] : List Int)) = some r := h
  clear h
  have H' := Aside0.mk H
  clear H
  go_enter Tryd.func49, Tryd.ntmps49
  go_wp2
  go_loopg [0, 3] k (fun kq v0 v3 w' => ∃ (x0_1 : ByteArray) (x3_1 : List Int), v0 = .string x0_1 ∧ Aside0 (budwoodref02_List.l0 kq x0_1 x3_1 = some r) ∧ Aside0 (kq ≤ k) ∧ Aside0 (Kd.R (Kd.int .i64) 3 w' w.heap.size (fun _ => True) v3 x3_1) ∧ Aside0 (Below w.heap.size w w'))
  case atStart => exact ⟨(a0), (([] : List Int)), (zE), H', ⟨Nat.le_refl _⟩, ⟨by first | exact Kd.R_nil _ _ _ _ _ | exact Kd.N_nil _ _ _ _ _ | exact Kd.V_nil _ _ _ _ _ | exact Kd.Q_nil _ _ _ _ _ | exact Kd.S_nil _ _ _ _ _⟩, ⟨zB⟩⟩
  case round =>
    clear H'
    obtain ⟨x0_1, x3_1, rfl, HA, HK1, HO_3, HB⟩ := hrel
    cases gk with
    | zero => exact absurd HA.out (by simp [budwoodref02_List.l0])
    | succ k1 =>
      have H := HA.out
      clear HA
      simp only [budwoodref02_List.l0] at H
      by_cases c2 : (x0_1.size : Int) > 0
      · rw [if_pos c2] at H
        have c2b0 : decide (0 < (x0_1.size : Int)) = true := decide_eq_true c2
        have c2b1 : decide (0 < x0_1.size) = true := decide_eq_true (by omega)
        clear c2
        replace H := Option.bind_eq_some_iff.mp H
        obtain ⟨⟨t221, t222⟩, A30, H⟩ := H
        replace H : (if x3_1.length < 17592186044416 then (if 0 ≤ t222 then (if t222 ≤ (x0_1.size : Int) then (budwoodref02_List.l0 k1 (x0_1.extract (t222 : Int).toNat x0_1.size) (x3_1 ++ [t221])) else (none)) else (none)) else (none)) = some r := H
        have A3 := Aside0.mk A30
        clear A30
        by_cases c4 : x3_1.length < 17592186044416
        · rw [if_pos c4] at H
          have LMc4 := Aside0.mk c4
          clear c4
          obtain ⟨y223, hy223⟩ : ∃ y_ : List Int, y_ = (x3_1 ++ [t221]) := ⟨_, rfl⟩
          replace H : (if 0 ≤ t222 then (if t222 ≤ (x0_1.size : Int) then (budwoodref02_List.l0 k1 (x0_1.extract (t222 : Int).toNat x0_1.size) y223) else (none)) else (none)) = some r := by first | (rw [hy223]; with_reducible exact H) | (have H2_ := (Option.bind_some _ _).symm.trans H; rw [hy223]; with_reducible exact H2_) | (have H2_ := (Option.bind_some _ _).symm.trans H; with_reducible exact H2_) | with_reducible exact H | (rw [hy223]; exact H) | exact H
          have Ny223 := Aside0.mk hy223
          clear hy223
          by_cases c5 : 0 ≤ t222
          · rw [if_pos c5] at H
            have c5b0 := eq_true c5
            have c5b1 : decide (0 ≤ t222) = true := decide_eq_true c5
            clear c5
            by_cases c6 : t222 ≤ (x0_1.size : Int)
            · rw [if_pos c6] at H
              have c6b0 := eq_true c6
              have c6b1 : decide (t222 ≤ (x0_1.size : Int)) = true := decide_eq_true c6
              clear c6
              have H' := Aside0.mk H
              clear H
              go_wp2_with (first | ((with_reducible refine gate_callee (f := 54) rfl ?_); refine zG (some 11) Tryd.func54 #[.string x0_1] ?_; (with_reducible refine (budwoodref02_One.calls k1 x0_1 t221 t222 _ A3.out).mono ?_); rintro e w' ⟨rfl, ⟨nd, rfl⟩⟩; refine ⟨_, rfl, ?_⟩) | ((with_reducible refine gate_builtin (b := .append) (xs := #[.tmp 14, .tmp 16]) rfl ?_); at_builtin; refine Kd.R_append (Kd.int .i64) (w0 := w) w.heap.size rfl (.tmp 14) (.tmp 16) 78 3 (.int .i64 0) 8 rfl Tryd.underlying78 info3 rfl (by decide) (by omega) u3 x3_1 t221 [.int .i64 t221] (fun _ => True) (fun _ => False) rfl rfl ?aP (fun _ hk => hk.elim) ?aF ?aO ?aB ?aS ?aL ?_; (case aP => exact rfl); (case aB => exact zB); (case aF => exact (fun _ _ => trivial)); (case aO => exact (zR HO_3)); (case aS => exact (below_size zB)); (case aL => have := LMc4.out; omega); intro v224 w7 ho hb hg hat; rw [← Ny223.out] at ho; have HO225 := Aside0.mk (ho); replace HB := Aside0.mk (hb); clear HO_3; clear ho hb hg hat))
              go_roundg k1
              case measure => have := HK1.out; omega
              case rel => exact ⟨(x0_1.extract (t222 : Int).toNat x0_1.size), (y223), (zE), H', ⟨by have := HK1.out; omega⟩, ⟨zR HO225⟩, ⟨zB⟩⟩
            · rw [if_neg c6] at H
              exact absurd H (by simp)
          · rw [if_neg c5] at H
            exact absurd H (by simp)
        · rw [if_neg c4] at H
          exact absurd H (by simp)
      · rw [if_neg c2] at H
        have c2b0 : decide (0 < (x0_1.size : Int)) = false := decide_eq_false c2
        have c2b1 : decide (0 < x0_1.size) = false := decide_eq_false (by omega)
        clear c2
        obtain rfl := Option.some.inj H
        go_wp2
        go_ret
        exact ⟨_, zF, by (with_reducible repeat (first | apply Kd.R_alloc | apply Kd.R_drewN | apply Kd.R_drew)); exact HO_3.out, zB⟩

/-! ### budwoodref02_letter: function 50 -/
set_option maxHeartbeats 8000000 in
set_option maxRecDepth 100000 in
theorem budwoodref02_letter.calls (a0 : Int) (r : Bool) (w : World) (h : budwoodref02_letter.f a0 = some r) :
    Calls Tryd.prog 50 #[.int .i64 a0] w fun e w' => e = .returned (.bool r) ∧ Drawn0 w w' := by
  have H : (if a0 ≥ 97 then (if a0 ≤ 122 then (some true) else (if a0 ≥ 65 then (if a0 ≤ 90 then (some true) else (some (decide (a0 ≥ 128)))) else (some (decide (a0 ≥ 128))))) else (if a0 ≥ 65 then (if a0 ≤ 90 then (some true) else (some (decide (a0 ≥ 128)))) else (some (decide (a0 ≥ 128))))) = some r := h
  clear h
  by_cases c2 : a0 ≥ 97
  · rw [if_pos c2] at H
    have c2b0 : decide (97 ≤ a0) = true := decide_eq_true c2
    clear c2
    by_cases c3 : a0 ≤ 122
    · rw [if_pos c3] at H
      have c3b0 : decide (a0 ≤ 122) = true := decide_eq_true c3
      clear c3
      obtain rfl := Option.some.inj H
      go_enter Tryd.func50, Tryd.ntmps50
      go_wp2
      go_ret
      exact ⟨zE, zD⟩
    · rw [if_neg c3] at H
      have c3b0 : decide (a0 ≤ 122) = false := decide_eq_false c3
      clear c3
      by_cases c4 : a0 ≥ 65
      · rw [if_pos c4] at H
        have c4b0 : decide (65 ≤ a0) = true := decide_eq_true c4
        clear c4
        by_cases c5 : a0 ≤ 90
        · rw [if_pos c5] at H
          have c5b0 : decide (a0 ≤ 90) = true := decide_eq_true c5
          clear c5
          obtain rfl := Option.some.inj H
          go_enter Tryd.func50, Tryd.ntmps50
          go_wp2
          go_ret
          exact ⟨zE, zD⟩
        · rw [if_neg c5] at H
          have c5b0 : decide (a0 ≤ 90) = false := decide_eq_false c5
          clear c5
          obtain rfl := Option.some.inj H
          go_enter Tryd.func50, Tryd.ntmps50
          go_wp2
          go_ret
          exact ⟨zE, zD⟩
      · rw [if_neg c4] at H
        have c4b0 : decide (65 ≤ a0) = false := decide_eq_false c4
        clear c4
        obtain rfl := Option.some.inj H
        go_enter Tryd.func50, Tryd.ntmps50
        go_wp2
        go_ret
        exact ⟨zE, zD⟩
  · rw [if_neg c2] at H
    have c2b0 : decide (97 ≤ a0) = false := decide_eq_false c2
    clear c2
    by_cases c6 : a0 ≥ 65
    · rw [if_pos c6] at H
      have c6b0 : decide (65 ≤ a0) = true := decide_eq_true c6
      clear c6
      by_cases c7 : a0 ≤ 90
      · rw [if_pos c7] at H
        have c7b0 : decide (a0 ≤ 90) = true := decide_eq_true c7
        clear c7
        obtain rfl := Option.some.inj H
        go_enter Tryd.func50, Tryd.ntmps50
        go_wp2
        go_ret
        exact ⟨zE, zD⟩
      · rw [if_neg c7] at H
        have c7b0 : decide (a0 ≤ 90) = false := decide_eq_false c7
        clear c7
        obtain rfl := Option.some.inj H
        go_enter Tryd.func50, Tryd.ntmps50
        go_wp2
        go_ret
        exact ⟨zE, zD⟩
    · rw [if_neg c6] at H
      have c6b0 : decide (65 ≤ a0) = false := decide_eq_false c6
      clear c6
      obtain rfl := Option.some.inj H
      go_enter Tryd.func50, Tryd.ntmps50
      go_wp2
      go_ret
      exact ⟨zE, zD⟩

/-! ### budwoodref02_digit: function 51 -/
set_option maxHeartbeats 8000000 in
set_option maxRecDepth 100000 in
theorem budwoodref02_digit.calls (a0 : Int) (r : Bool) (w : World) (h : budwoodref02_digit.f a0 = some r) :
    Calls Tryd.prog 51 #[.int .i64 a0] w fun e w' => e = .returned (.bool r) ∧ Drawn0 w w' := by
  have H : (if a0 ≥ 48 then (some (decide (a0 ≤ 57))) else (some false)) = some r := h
  clear h
  by_cases c2 : a0 ≥ 48
  · rw [if_pos c2] at H
    have c2b0 : decide (48 ≤ a0) = true := decide_eq_true c2
    clear c2
    obtain rfl := Option.some.inj H
    go_enter Tryd.func51, Tryd.ntmps51
    go_wp2
    go_ret
    exact ⟨zE, zD⟩
  · rw [if_neg c2] at H
    have c2b0 : decide (48 ≤ a0) = false := decide_eq_false c2
    clear c2
    obtain rfl := Option.some.inj H
    go_enter Tryd.func51, Tryd.ntmps51
    go_wp2
    go_ret
    exact ⟨zE, zD⟩

set_option maxHeartbeats 8000000 in
set_option maxRecDepth 100000 in
theorem budwoodref02_stem.calls (k : Nat) (a0 : ByteArray) (r : Bool) (w : World) (h : budwoodref02_stem.f k a0 = some r) :
    Calls Tryd.prog 43 #[.string a0] w fun e w' => e = .returned (.bool r) ∧ Below w.heap.size w w' := by
  have HB := Aside0.mk (Below.refl w.heap.size w)
  have H : ((budwoodref02_List.f k a0).bind fun t226 => (if (t226.length : Int) = 0 then (budwoodref02_stem.j0 k t226 true) else (if 0 < (t226.length : Int) then ((budwoodref02_letter.f (rd t226 0)).bind fun t230 => (budwoodref02_stem.j0 k t226 (!t230))) else (none)))) = some r := h
  clear h
  replace H := Option.bind_eq_some_iff.mp H
  obtain ⟨t226, A20, H⟩ := H
  replace H : (if (t226.length : Int) = 0 then (budwoodref02_stem.j0 k t226 true) else (if 0 < (t226.length : Int) then ((budwoodref02_letter.f (rd t226 0)).bind fun t230 => (budwoodref02_stem.j0 k t226 (!t230))) else (none))) = some r := H
  have A2 := Aside0.mk A20
  clear A20
  have HC3 := Aside0.mk H
  clear H
  go_enter Tryd.func43, Tryd.ntmps43
  go_upto_region 2 with (first | ((with_reducible refine gate_callee (f := 49) rfl ?_); refine zG (some 6) Tryd.func49 #[.string a0] ?_; (with_reducible refine (budwoodref02_List.calls k a0 t226 _ A2.out).mono ?_); rintro e w4 ⟨v227, rfl, ho0, hb⟩; refine ⟨_, rfl, ?_⟩; have HO228 := Aside0.mk (Kd.R_lower ho0 (below_size zB)); replace HB := Aside0.mk (below_step zB hb); (try clear hb); (try clear hb2); (try clear hk); (try clear hi); (try clear ho0)))
  (try simp only [Act.put, List.setIfInBounds_toArray, List.set_cons_zero, List.set_cons_succ])
  go_cut [16] (fun v16 wc => ∃ (kq : Nat) (x16_2 : Bool), v16 = .bool x16_2 ∧ Aside0 (budwoodref02_stem.j0 kq t226 x16_2 = some r) ∧ Aside0 (kq ≤ k) ∧ Aside0 (Kd.R (Kd.int .i64) 3 wc w.heap.size (fun _ => True) v227 t226) ∧ Aside0 (Below w.heap.size w wc))
  case first =>
    have H := HC3.out
    clear HC3
    by_cases c5 : (t226.length : Int) = 0
    · rw [if_pos c5] at H
      have c5b0 : ((t226.length : Int) == 0) = true := beq_iff_eq.mpr c5
      have c5b1 : ((t226.length : Int) != 0) = false := bne_eq_false_iff_eq.mpr c5
      clear c5
      (first | rw [c5b0] | (simp only [i64_w, i32_w]; rw [c5b0]) | skip)
      have H' := Aside0.mk H
      clear H
      obtain ⟨Ao6, co6, eo6⟩ := Kd.R_slice HO228.out
      subst eo6
      go_wp2
      go_meet
      case rel => exact ⟨_, (true), (zE), H', ⟨by first | omega | exact Nat.le_refl _⟩, ⟨zR HO228⟩, ⟨zB⟩⟩
    · rw [if_neg c5] at H
      have c5b0 : ((t226.length : Int) == 0) = false := beq_eq_false_iff_ne.mpr c5
      have c5b1 : ((t226.length : Int) != 0) = true := bne_iff_ne.mpr c5
      have c5b2 : ¬ (t226 = []) := fun h_ => c5 (by rw [h_]; rfl)
      (first | rw [c5b0] | (simp only [i64_w, i32_w]; rw [c5b0]) | skip)
      by_cases c7 : 0 < (t226.length : Int)
      · rw [if_pos c7] at H
        have c7b0 : decide (0 < (t226.length : Int)) = true := decide_eq_true c7
        have c7b1 : decide (0 < t226.length) = true := decide_eq_true (by omega)
        clear c7
        replace H := Option.bind_eq_some_iff.mp H
        obtain ⟨t230, A80, H⟩ := H
        replace H : (budwoodref02_stem.j0 k t226 (!t230)) = some r := H
        have A8 := Aside0.mk A80
        clear A80
        have H' := Aside0.mk H
        clear H
        obtain ⟨Ao9, co9, eo9⟩ := Kd.R_slice HO228.out
        subst eo9
        have p229 : 0 ≤ (0 : Int) := (by omega)
        have q229 : 0 < (t226.length : Int) := of_decide_eq_true (by first | (with_reducible assumption) | assumption)
        obtain ⟨ad229, e229, hx229_0⟩ := Kd.at_int (Kd.R_reads' HO228.out).2.2 0 p229 q229
        cases e229
        have qi229 : (0 < t226.length) = True := eq_true (by omega)
        (try rw [show ((0 : Int)).toNat = 0 from rfl] at hx229_0)
        (try rw [Addr.add_zero'] at hx229_0)
        replace p229 := eq_true p229
        replace q229 := eq_true q229
        go_wp2_with (first | (go_at_call 50; (with_reducible refine (budwoodref02_letter.calls (rd t226 0) t230 _ A8.out).mono ?_); rintro e w' ⟨rfl, ⟨nd, rfl⟩⟩))
        go_meet
        case rel => exact ⟨_, (!t230), (zE), H', ⟨by first | omega | exact Nat.le_refl _⟩, ⟨zR HO228⟩, ⟨zB⟩⟩
      · rw [if_neg c7] at H
        exact absurd H (by simp)
  case rest =>
    clear HC3
    try clear p2
    try clear q2
    try clear hx2
    try clear qi2
    try clear c4
    try clear c5
    try clear c5b0
    try clear c5b1
    try clear c5b2
    try clear c7
    try clear c7b0
    try clear c7b1
    try clear hx229_0
    try clear p229
    try clear q229
    obtain ⟨kq, x16_2, rfl, HA, HJ2, HO_3, HB⟩ := hcut
    cases kq with
    | zero => exact absurd HA.out (by simp [budwoodref02_stem.j0])
    | succ kj2 =>
      have H := HA.out
      clear HA
      simp only [budwoodref02_stem.j0] at H
      by_cases c10 : x16_2 = true
      · subst c10
        replace H := zT H
        obtain rfl := Option.some.inj H
        go_wp2
        go_ret
        exact ⟨zF, zB⟩
      · replace c10 := Bool.eq_false_iff.mpr c10
        subst c10
        replace H := zU H
        have H' := Aside0.mk H
        clear H
        go_wp2
        go_loopg [4] kj2 (fun kq v4 w' => ∃ (x4_2 : Int), v4 = .int .i64 x4_2 ∧ Aside0 (budwoodref02_stem.l0 kq t226 x4_2 = some r) ∧ Aside0 (kq ≤ kj2) ∧ Aside0 (Kd.R (Kd.int .i64) 3 w' w.heap.size (fun _ => True) v227 t226) ∧ Aside0 (Below w.heap.size w w'))
        case atStart => exact ⟨(1), (zE), H', ⟨Nat.le_refl _⟩, ⟨zR HO_3⟩, ⟨zB⟩⟩
        case round =>
          clear H'
          try clear c1
          try clear p2
          try clear q2
          try clear hx2
          try clear qi2
          try clear c4
          try clear c5
          try clear c5b0
          try clear c5b1
          try clear c5b2
          try clear c7
          try clear c7b0
          try clear c7b1
          try clear c10
          try clear hx229_0
          try clear p2
          try clear p229
          try clear q2
          try clear q229
          obtain ⟨x4_2, rfl, HA, HK2, HO_3, HB⟩ := hrel
          cases gk with
          | zero => exact absurd HA.out (by simp [budwoodref02_stem.l0])
          | succ k2 =>
            have H := HA.out
            clear HA
            simp only [budwoodref02_stem.l0] at H
            by_cases c11 : x4_2 < (t226.length : Int)
            · rw [if_pos c11] at H
              have c11b0 : decide (x4_2 < (t226.length : Int)) = true := decide_eq_true c11
              clear c11
              by_cases c12 : 0 ≤ x4_2
              · rw [if_pos c12] at H
                have c12b0 : decide (0 ≤ x4_2) = true := decide_eq_true c12
                clear c12
                replace H := Option.bind_eq_some_iff.mp H
                obtain ⟨t232, A130, H⟩ := H
                replace H : (if t232 = true then (budwoodref02_stem.l0 k2 t226 (wrap64 (x4_2 + 1))) else ((budwoodref02_digit.f (rd t226 x4_2)).bind fun t234 => (if t234 = true then (budwoodref02_stem.l0 k2 t226 (wrap64 (x4_2 + 1))) else (if (rd t226 x4_2) = 95 then (budwoodref02_stem.l0 k2 t226 (wrap64 (x4_2 + 1))) else (some false))))) = some r := H
                have A13 := Aside0.mk A130
                clear A130
                by_cases c14 : t232 = true
                · subst c14
                  replace H := zT H
                  have H' := Aside0.mk H
                  clear H
                  obtain ⟨Ao15, co15, eo15⟩ := Kd.R_slice HO_3.out
                  subst eo15
                  have p231 : 0 ≤ (x4_2 : Int) := of_decide_eq_true (by first | (with_reducible assumption) | assumption)
                  have q231 : x4_2 < (t226.length : Int) := of_decide_eq_true (by first | (with_reducible assumption) | assumption)
                  obtain ⟨ad231, e231, hx231_0⟩ := Kd.at_int (Kd.R_reads' HO_3.out).2.2 x4_2 p231 q231
                  cases e231
                  replace p231 := eq_true p231
                  replace q231 := eq_true q231
                  go_wp2_with (first | ((with_reducible refine gate_callee (f := 50) rfl ?_); refine zG (some 27) Tryd.func50 #[.int .i64 (rd t226 x4_2)] ?_; (with_reducible refine (budwoodref02_letter.calls (rd t226 x4_2) true _ A13.out).mono ?_); rintro e w' ⟨rfl, ⟨nd, rfl⟩⟩; refine ⟨_, rfl, ?_⟩))
                  go_roundg k2
                  case measure => have := HJ2.out; have := HK2.out; omega
                  case rel => exact ⟨(wrap64 (x4_2 + 1)), (zE), H', ⟨by have := HJ2.out; have := HK2.out; omega⟩, ⟨zR HO_3⟩, ⟨zB⟩⟩
                · replace c14 := Bool.eq_false_iff.mpr c14
                  subst c14
                  replace H := zU H
                  replace H := Option.bind_eq_some_iff.mp H
                  obtain ⟨t234, A160, H⟩ := H
                  replace H : (if t234 = true then (budwoodref02_stem.l0 k2 t226 (wrap64 (x4_2 + 1))) else (if (rd t226 x4_2) = 95 then (budwoodref02_stem.l0 k2 t226 (wrap64 (x4_2 + 1))) else (some false))) = some r := H
                  have A16 := Aside0.mk A160
                  clear A160
                  by_cases c17 : t234 = true
                  · subst c17
                    replace H := zT H
                    have H' := Aside0.mk H
                    clear H
                    obtain ⟨Ao18, co18, eo18⟩ := Kd.R_slice HO_3.out
                    subst eo18
                    have p231 : 0 ≤ (x4_2 : Int) := of_decide_eq_true (by first | (with_reducible assumption) | assumption)
                    have q231 : x4_2 < (t226.length : Int) := of_decide_eq_true (by first | (with_reducible assumption) | assumption)
                    obtain ⟨ad231, e231, hx231_0⟩ := Kd.at_int (Kd.R_reads' HO_3.out).2.2 x4_2 p231 q231
                    cases e231
                    replace p231 := eq_true p231
                    replace q231 := eq_true q231
                    go_wp2_with (first | ((with_reducible refine gate_callee (f := 50) rfl ?_); refine zG (some 27) Tryd.func50 #[.int .i64 (rd t226 x4_2)] ?_; (with_reducible refine (budwoodref02_letter.calls (rd t226 x4_2) false _ A13.out).mono ?_); rintro e w' ⟨rfl, ⟨nd, rfl⟩⟩; refine ⟨_, rfl, ?_⟩; have p233 : 0 ≤ (x4_2 : Int) := of_decide_eq_true (by first | (with_reducible assumption) | assumption); have q233 : x4_2 < (t226.length : Int) := of_decide_eq_true (by first | (with_reducible assumption) | assumption); obtain ⟨ad233, e233, hx233_0⟩ := Kd.at_int (Kd.R_reads' HO_3.out).2.2 x4_2 p233 q233; obtain rfl : ad231 = ad233 := (by injection e233); replace p233 := eq_true p233; replace q233 := eq_true q233) | (go_at_call 51; (with_reducible refine (budwoodref02_digit.calls (rd t226 x4_2) true _ A16.out).mono ?_); rintro e w' ⟨rfl, ⟨nd, rfl⟩⟩))
                    go_roundg k2
                    case measure => have := HJ2.out; have := HK2.out; omega
                    case rel => exact ⟨(wrap64 (x4_2 + 1)), (zE), H', ⟨by have := HJ2.out; have := HK2.out; omega⟩, ⟨zR HO_3⟩, ⟨zB⟩⟩
                  · replace c17 := Bool.eq_false_iff.mpr c17
                    subst c17
                    replace H := zU H
                    by_cases c19 : (rd t226 x4_2) = 95
                    · rw [if_pos c19] at H
                      have c19b0 : ((rd t226 x4_2) == 95) = true := beq_iff_eq.mpr c19
                      have c19b1 : ((rd t226 x4_2) != 95) = false := bne_eq_false_iff_eq.mpr c19
                      clear c19
                      have H' := Aside0.mk H
                      clear H
                      obtain ⟨Ao20, co20, eo20⟩ := Kd.R_slice HO_3.out
                      subst eo20
                      have p231 : 0 ≤ (x4_2 : Int) := of_decide_eq_true (by first | (with_reducible assumption) | assumption)
                      have q231 : x4_2 < (t226.length : Int) := of_decide_eq_true (by first | (with_reducible assumption) | assumption)
                      obtain ⟨ad231, e231, hx231_0⟩ := Kd.at_int (Kd.R_reads' HO_3.out).2.2 x4_2 p231 q231
                      cases e231
                      replace p231 := eq_true p231
                      replace q231 := eq_true q231
                      go_wp2_with (first | ((with_reducible refine gate_callee (f := 50) rfl ?_); refine zG (some 27) Tryd.func50 #[.int .i64 (rd t226 x4_2)] ?_; (with_reducible refine (budwoodref02_letter.calls (rd t226 x4_2) false _ A13.out).mono ?_); rintro e w' ⟨rfl, ⟨nd, rfl⟩⟩; refine ⟨_, rfl, ?_⟩; have p233 : 0 ≤ (x4_2 : Int) := of_decide_eq_true (by first | (with_reducible assumption) | assumption); have q233 : x4_2 < (t226.length : Int) := of_decide_eq_true (by first | (with_reducible assumption) | assumption); obtain ⟨ad233, e233, hx233_0⟩ := Kd.at_int (Kd.R_reads' HO_3.out).2.2 x4_2 p233 q233; obtain rfl : ad231 = ad233 := (by injection e233); replace p233 := eq_true p233; replace q233 := eq_true q233) | (go_at_call 51; (with_reducible refine (budwoodref02_digit.calls (rd t226 x4_2) false _ A16.out).mono ?_); rintro e w' ⟨rfl, ⟨nd, rfl⟩⟩; have p235 : 0 ≤ (x4_2 : Int) := of_decide_eq_true (by first | (with_reducible assumption) | assumption); have q235 : x4_2 < (t226.length : Int) := of_decide_eq_true (by first | (with_reducible assumption) | assumption); obtain ⟨ad235, e235, hx235_0⟩ := Kd.at_int (Kd.R_reads' HO_3.out).2.2 x4_2 p235 q235; obtain rfl : ad231 = ad235 := (by injection e235); replace p235 := eq_true p235; replace q235 := eq_true q235))
                      go_roundg k2
                      case measure => have := HJ2.out; have := HK2.out; omega
                      case rel => exact ⟨(wrap64 (x4_2 + 1)), (zE), H', ⟨by have := HJ2.out; have := HK2.out; omega⟩, ⟨zR HO_3⟩, ⟨zB⟩⟩
                    · rw [if_neg c19] at H
                      have c19b0 : ((rd t226 x4_2) == 95) = false := beq_eq_false_iff_ne.mpr c19
                      have c19b1 : ((rd t226 x4_2) != 95) = true := bne_iff_ne.mpr c19
                      obtain rfl := Option.some.inj H
                      obtain ⟨Ao21, co21, eo21⟩ := Kd.R_slice HO_3.out
                      subst eo21
                      have p231 : 0 ≤ (x4_2 : Int) := of_decide_eq_true (by first | (with_reducible assumption) | assumption)
                      have q231 : x4_2 < (t226.length : Int) := of_decide_eq_true (by first | (with_reducible assumption) | assumption)
                      obtain ⟨ad231, e231, hx231_0⟩ := Kd.at_int (Kd.R_reads' HO_3.out).2.2 x4_2 p231 q231
                      cases e231
                      replace p231 := eq_true p231
                      replace q231 := eq_true q231
                      go_wp2_with (first | ((with_reducible refine gate_callee (f := 50) rfl ?_); refine zG (some 27) Tryd.func50 #[.int .i64 (rd t226 x4_2)] ?_; (with_reducible refine (budwoodref02_letter.calls (rd t226 x4_2) false _ A13.out).mono ?_); rintro e w' ⟨rfl, ⟨nd, rfl⟩⟩; refine ⟨_, rfl, ?_⟩; have p233 : 0 ≤ (x4_2 : Int) := of_decide_eq_true (by first | (with_reducible assumption) | assumption); have q233 : x4_2 < (t226.length : Int) := of_decide_eq_true (by first | (with_reducible assumption) | assumption); obtain ⟨ad233, e233, hx233_0⟩ := Kd.at_int (Kd.R_reads' HO_3.out).2.2 x4_2 p233 q233; obtain rfl : ad231 = ad233 := (by injection e233); replace p233 := eq_true p233; replace q233 := eq_true q233) | (go_at_call 51; (with_reducible refine (budwoodref02_digit.calls (rd t226 x4_2) false _ A16.out).mono ?_); rintro e w' ⟨rfl, ⟨nd, rfl⟩⟩; have p235 : 0 ≤ (x4_2 : Int) := of_decide_eq_true (by first | (with_reducible assumption) | assumption); have q235 : x4_2 < (t226.length : Int) := of_decide_eq_true (by first | (with_reducible assumption) | assumption); obtain ⟨ad235, e235, hx235_0⟩ := Kd.at_int (Kd.R_reads' HO_3.out).2.2 x4_2 p235 q235; obtain rfl : ad231 = ad235 := (by injection e235); replace p235 := eq_true p235; replace q235 := eq_true q235))
                      go_ret
                      exact ⟨zF, zB⟩
              · rw [if_neg c12] at H
                exact absurd H (by simp)
            · rw [if_neg c11] at H
              have c11b0 : decide (x4_2 < (t226.length : Int)) = false := decide_eq_false c11
              clear c11
              obtain rfl := Option.some.inj H
              obtain ⟨Ao22, co22, eo22⟩ := Kd.R_slice HO_3.out
              subst eo22
              go_wp2
              go_ret
              exact ⟨zF, zB⟩

/-! ### budwoodref02_version: function 44 -/
set_option maxHeartbeats 8000000 in
set_option maxRecDepth 100000 in
theorem budwoodref02_version.calls (k : Nat) (a0 : ByteArray) (r : Int) (w : World) (h : budwoodref02_version.f k a0 = some r) :
    Calls Tryd.prog 44 #[.string a0] w fun e w' => e = .returned (.int .i64 r) ∧ Drawn0 w w' := by
  have H : (if (a0.size : Int) < 1 then (budwoodref02_version.j0 k a0 true) else (if (a0.size : Int) > 3 then (budwoodref02_version.j0 k a0 true) else (if 0 < (a0.size : Int) then (budwoodref02_version.j0 k a0 ((bt a0 0) == 48)) else (none)))) = some r := h
  clear h
  have HC2 := Aside0.mk H
  clear H
  go_enter Tryd.func44, Tryd.ntmps44
  go_upto_region 1 with (fail)
  go_cut [17] (fun v17 wc => ∃ (kq : Nat) (x17_1 : Bool), v17 = .bool x17_1 ∧ Aside0 (budwoodref02_version.j0 kq a0 x17_1 = some r) ∧ Aside0 (kq ≤ k) ∧ Drawn0 w wc)
  case first =>
    have H := HC2.out
    clear HC2
    by_cases c3 : (a0.size : Int) < 1
    · rw [if_pos c3] at H
      have c3b0 : decide ((a0.size : Int) < 1) = true := decide_eq_true c3
      have c3b1 : decide (a0.size < 1) = true := decide_eq_true (by omega)
      clear c3
      (first | rw [c3b0] | (simp only [i64_w, i32_w]; rw [c3b0]) | skip)
      have H' := Aside0.mk H
      clear H
      go_wp2
      go_meet
      case rel => exact ⟨_, (true), (zE), H', ⟨by first | omega | exact Nat.le_refl _⟩, zD⟩
    · rw [if_neg c3] at H
      have c3b0 : decide ((a0.size : Int) < 1) = false := decide_eq_false c3
      have c3b1 : decide (a0.size < 1) = false := decide_eq_false (by omega)
      clear c3
      (first | rw [c3b0] | (simp only [i64_w, i32_w]; rw [c3b0]) | skip)
      by_cases c4 : (a0.size : Int) > 3
      · rw [if_pos c4] at H
        have c4b0 : decide (3 < (a0.size : Int)) = true := decide_eq_true c4
        have c4b1 : decide (3 < a0.size) = true := decide_eq_true (by omega)
        clear c4
        have H' := Aside0.mk H
        clear H
        go_wp2
        go_meet
        case rel => exact ⟨_, (true), (zE), H', ⟨by first | omega | exact Nat.le_refl _⟩, zD⟩
      · rw [if_neg c4] at H
        have c4b0 : decide (3 < (a0.size : Int)) = false := decide_eq_false c4
        have c4b1 : decide (3 < a0.size) = false := decide_eq_false (by omega)
        clear c4
        by_cases c5 : 0 < (a0.size : Int)
        · rw [if_pos c5] at H
          have c5b0 : decide (0 < (a0.size : Int)) = true := decide_eq_true c5
          have c5b1 : decide (0 < a0.size) = true := decide_eq_true (by omega)
          clear c5
          have H' := Aside0.mk H
          clear H
          have p6 : 0 ≤ (0 : Int) := (by omega)
          have q6 : 0 < a0.size := (by have : (0 : Int) < (a0.size : Int) := of_decide_eq_true (by first | (with_reducible assumption) | assumption); omega)
          have hx6 : ∀ h : 0 < a0.size, ((a0[0]'h).toNat : Int) = bt a0 0 := bt_at a0 0
          clear p6
          have qi6 : (0 < (a0.size : Int)) = True := eq_true (of_decide_eq_true (by first | (with_reducible assumption) | assumption))
          replace q6 := eq_true q6
          go_wp2
          go_meet
          case rel => exact ⟨_, (((bt a0 0) == 48)), (zE), H', ⟨by first | omega | exact Nat.le_refl _⟩, zD⟩
        · rw [if_neg c5] at H
          exact absurd H (by simp)
  case rest =>
    clear HC2
    try clear p2
    try clear c3
    try clear c3b0
    try clear c3b1
    try clear c4
    try clear c4b0
    try clear c4b1
    try clear c5
    try clear c5b0
    try clear c5b1
    try clear p6
    try clear q6
    try clear hx6
    try clear qi6
    try clear p6
    try clear q6
    obtain ⟨kq, x17_1, rfl, HA, HJ1, ⟨mc1, rfl⟩⟩ := hcut
    cases kq with
    | zero => exact absurd HA.out (by simp [budwoodref02_version.j0])
    | succ kj1 =>
      have H := HA.out
      clear HA
      simp only [budwoodref02_version.j0] at H
      by_cases c7 : x17_1 = true
      · subst c7
        replace H := zT H
        obtain rfl := Option.some.inj H
        go_wp2
        go_ret
        exact ⟨zE, zD⟩
      · replace c7 := Bool.eq_false_iff.mpr c7
        subst c7
        replace H := zU H
        have H' := Aside0.mk H
        clear H
        go_wp2
        go_loopg [3, 4] kj1 (fun kq v3 v4 w' => ∃ (x3_2 : Int) (x4_2 : Int), v3 = .int .i64 x3_2 ∧ v4 = .int .i64 x4_2 ∧ Aside0 (budwoodref02_version.l0 kq a0 x3_2 x4_2 = some r) ∧ Aside0 (kq ≤ kj1) ∧ Drawn0 w w')
        case atStart => exact ⟨(0), (0), (zE), (zE), H', ⟨Nat.le_refl _⟩, zD⟩
        case round =>
          clear H'
          try clear c1
          try clear p2
          try clear c3
          try clear c3b0
          try clear c3b1
          try clear c4
          try clear c4b0
          try clear c4b1
          try clear c5
          try clear c5b0
          try clear c5b1
          try clear p6
          try clear q6
          try clear hx6
          try clear qi6
          try clear c7
          try clear p2
          try clear p6
          try clear q6
          obtain ⟨x3_2, x4_2, rfl, rfl, HA, HK2, ⟨m2, rfl⟩⟩ := hrel
          cases gk with
          | zero => exact absurd HA.out (by simp [budwoodref02_version.l0])
          | succ k2 =>
            have H := HA.out
            clear HA
            simp only [budwoodref02_version.l0] at H
            by_cases c8 : x4_2 < (a0.size : Int)
            · rw [if_pos c8] at H
              have c8b0 : decide (x4_2 < (a0.size : Int)) = true := decide_eq_true c8
              clear c8
              by_cases c9 : 0 ≤ x4_2
              · rw [if_pos c9] at H
                have c9b0 : decide (0 ≤ x4_2) = true := decide_eq_true c9
                clear c9
                replace H := Option.bind_eq_some_iff.mp H
                obtain ⟨t236, A110, H⟩ := H
                replace H : (if t236 = true then (budwoodref02_version.l0 k2 a0 (wrap64 ((wrap64 ((wrap64 (10 * x3_2)) + (wrap64 (bt a0 x4_2)))) - 48)) (wrap64 (x4_2 + 1))) else (some 0)) = some r := H
                have A11 := Aside0.mk A110
                clear A110
                by_cases c12 : t236 = true
                · subst c12
                  replace H := zT H
                  have H' := Aside0.mk H
                  clear H
                  have p10 : 0 ≤ (x4_2 : Int) := of_decide_eq_true (by first | (with_reducible assumption) | assumption)
                  have q10 : x4_2 < (a0.size : Int) := of_decide_eq_true (by first | (with_reducible assumption) | assumption)
                  have hx10 := bt_at a0 x4_2
                  replace p10 := eq_true p10
                  replace q10 := eq_true q10
                  go_wp2_with (first | ((with_reducible refine gate_callee (f := 51) rfl ?_); refine zG (some 28) Tryd.func51 #[.int .i64 (wrap64 (bt a0 x4_2))] ?_; (with_reducible refine (budwoodref02_digit.calls (wrap64 (bt a0 x4_2)) true _ A11.out).mono ?_); rintro e w' ⟨rfl, ⟨nd, rfl⟩⟩; refine ⟨_, rfl, ?_⟩; have p13 : 0 ≤ (x4_2 : Int) := of_decide_eq_true (by first | (with_reducible assumption) | assumption); have q13 : x4_2 < (a0.size : Int) := of_decide_eq_true (by first | (with_reducible assumption) | assumption); have hx13 := bt_at a0 x4_2; replace p13 := eq_true p13; replace q13 := eq_true q13))
                  go_roundg k2
                  case measure => have := HJ1.out; have := HK2.out; omega
                  case rel => exact ⟨(wrap64 ((wrap64 ((wrap64 (10 * x3_2)) + (wrap64 (bt a0 x4_2)))) - 48)), (wrap64 (x4_2 + 1)), (zE), (zE), H', ⟨by have := HJ1.out; have := HK2.out; omega⟩, zD⟩
                · replace c12 := Bool.eq_false_iff.mpr c12
                  subst c12
                  replace H := zU H
                  obtain rfl := Option.some.inj H
                  have p10 : 0 ≤ (x4_2 : Int) := of_decide_eq_true (by first | (with_reducible assumption) | assumption)
                  have q10 : x4_2 < (a0.size : Int) := of_decide_eq_true (by first | (with_reducible assumption) | assumption)
                  have hx10 := bt_at a0 x4_2
                  replace p10 := eq_true p10
                  replace q10 := eq_true q10
                  go_wp2_with (first | ((with_reducible refine gate_callee (f := 51) rfl ?_); refine zG (some 28) Tryd.func51 #[.int .i64 (wrap64 (bt a0 x4_2))] ?_; (with_reducible refine (budwoodref02_digit.calls (wrap64 (bt a0 x4_2)) false _ A11.out).mono ?_); rintro e w' ⟨rfl, ⟨nd, rfl⟩⟩; refine ⟨_, rfl, ?_⟩))
                  go_ret
                  exact ⟨zE, zD⟩
              · rw [if_neg c9] at H
                exact absurd H (by simp)
            · rw [if_neg c8] at H
              have c8b0 : decide (x4_2 < (a0.size : Int)) = false := decide_eq_false c8
              clear c8
              obtain rfl := Option.some.inj H
              go_wp2
              go_ret
              exact ⟨zE, zD⟩

/-! ### budwoodref02_Runes: function 45 -/
set_option maxHeartbeats 8000000 in
set_option maxRecDepth 100000 in
theorem budwoodref02_Runes.calls (k : Nat) (a0 : ByteArray) (r : Int) (w : World) (h : budwoodref02_Runes.f k a0 = some r) :
    Calls Tryd.prog 45 #[.string a0] w fun e w' => e = .returned (.int .i64 r) ∧ Below w.heap.size w w' := by
  have HB := Aside0.mk (Below.refl w.heap.size w)
  have H : ((budwoodref02_List.f k a0).bind fun t237 => (some (t237.length : Int))) = some r := h
  clear h
  replace H := Option.bind_eq_some_iff.mp H
  obtain ⟨t237, A20, H⟩ := H
  replace H : (some (t237.length : Int)) = some r := H
  have A2 := Aside0.mk A20
  clear A20
  obtain rfl := Option.some.inj H
  go_enter Tryd.func45, Tryd.ntmps45
  go_wp2_with (first | ((with_reducible refine gate_callee (f := 49) rfl ?_); refine zG (some 4) Tryd.func49 #[.string a0] ?_; (with_reducible refine (budwoodref02_List.calls k a0 t237 _ A2.out).mono ?_); rintro e w3 ⟨v238, rfl, ho0, hb⟩; refine ⟨_, rfl, ?_⟩; have HO239 := Aside0.mk (Kd.R_lower ho0 (below_size zB)); replace HB := Aside0.mk (below_step zB hb); (try clear hb); (try clear hb2); (try clear hk); (try clear hi); (try clear ho0); obtain ⟨Ao4, co4, eo4⟩ := Kd.R_slice HO239.out; subst eo4))
  go_ret
  exact ⟨zF, zB⟩

/-! ### budwoodref02_Check: function 37 -/
set_option maxHeartbeats 8000000 in
set_option maxRecDepth 100000 in
theorem budwoodref02_Check.calls (k : Nat) (a0 : ByteArray) (r : Int) (w : World) (h : budwoodref02_Check.f k a0 = some r) :
    Calls Tryd.prog 37 #[.string a0] w fun e w' => e = .returned (.int .i64 r) ∧ Below w.heap.size w w' := by
  have HB := Aside0.mk (Below.refl w.heap.size w)
  have H : ((budwoodref02_parts.f k a0).bind fun bt240 => ((budwoodref02_stem.f k bt240.1).bind fun t243 => (if t243 = true then (if bt240.2.2 = true then ((budwoodref02_version.f k bt240.2.1).bind fun t244 => (budwoodref02_Check.j0 k a0 (t244 == 0))) else (budwoodref02_Check.j0 k a0 false)) else (budwoodref02_Check.j0 k a0 true)))) = some r := h
  clear h
  replace H := Option.bind_eq_some_iff.mp H
  obtain ⟨⟨t240, t241, t242⟩, A20, H⟩ := H
  replace H : ((budwoodref02_stem.f k t240).bind fun t243 => (if t243 = true then (if t242 = true then ((budwoodref02_version.f k t241).bind fun t244 => (budwoodref02_Check.j0 k a0 (t244 == 0))) else (budwoodref02_Check.j0 k a0 false)) else (budwoodref02_Check.j0 k a0 true))) = some r := H
  have A2 := Aside0.mk A20
  clear A20
  have HC3 := Aside0.mk H
  clear H
  go_enter Tryd.func37, Tryd.ntmps37
  go_upto_region 2 with (first | ((with_reducible refine gate_callee (f := 42) rfl ?_); refine zG (some 8) Tryd.func42 #[.string a0] ?_; (with_reducible refine (budwoodref02_parts.calls k a0 t240 t241 t242 _ A2.out).mono ?_); rintro e w' ⟨rfl, ⟨nd, rfl⟩⟩; refine ⟨_, rfl, ?_⟩))
  (try simp only [Act.put, List.setIfInBounds_toArray, List.set_cons_zero, List.set_cons_succ])
  go_cut [22] (fun v22 wc => ∃ (kq : Nat) (x22_2 : Bool), v22 = .bool x22_2 ∧ Aside0 (budwoodref02_Check.j0 kq a0 x22_2 = some r) ∧ Aside0 (kq ≤ k) ∧ Aside0 (Below w.heap.size w wc))
  case first =>
    have H := HC3.out
    clear HC3
    replace H := Option.bind_eq_some_iff.mp H
    obtain ⟨t243, A40, H⟩ := H
    replace H : (if t243 = true then (if t242 = true then ((budwoodref02_version.f k t241).bind fun t244 => (budwoodref02_Check.j0 k a0 (t244 == 0))) else (budwoodref02_Check.j0 k a0 false)) else (budwoodref02_Check.j0 k a0 true)) = some r := H
    have A4 := Aside0.mk A40
    clear A40
    by_cases c5 : t243 = true
    · subst c5
      replace H := zT H
      by_cases c6 : t242 = true
      · subst c6
        replace H := zT H
        replace H := Option.bind_eq_some_iff.mp H
        obtain ⟨t244, A70, H⟩ := H
        replace H : (budwoodref02_Check.j0 k a0 (t244 == 0)) = some r := H
        have A7 := Aside0.mk A70
        clear A70
        have H' := Aside0.mk H
        clear H
        go_wp2_with (first | ((with_reducible refine gate_callee (f := 43) rfl ?_); refine zG (some 13) Tryd.func43 #[.string t240] ?_; (with_reducible refine (budwoodref02_stem.calls k t240 true _ A4.out).mono ?_); rintro e w8 ⟨rfl, hb⟩; refine ⟨_, rfl, ?_⟩; replace HB := Aside0.mk (below_step zB hb); (try clear hb); (try clear hb2); (try clear hk); (try clear hi)) | (go_at_call 44; (with_reducible refine (budwoodref02_version.calls k t241 t244 _ A7.out).mono ?_); rintro e w' ⟨rfl, ⟨nd, rfl⟩⟩))
        go_meet
        case rel => exact ⟨_, ((t244 == 0)), (zE), H', ⟨by first | omega | exact Nat.le_refl _⟩, ⟨zB⟩⟩
      · replace c6 := Bool.eq_false_iff.mpr c6
        subst c6
        replace H := zU H
        have H' := Aside0.mk H
        clear H
        go_wp2_with (first | ((with_reducible refine gate_callee (f := 43) rfl ?_); refine zG (some 13) Tryd.func43 #[.string t240] ?_; (with_reducible refine (budwoodref02_stem.calls k t240 true _ A4.out).mono ?_); rintro e w9 ⟨rfl, hb⟩; refine ⟨_, rfl, ?_⟩; replace HB := Aside0.mk (below_step zB hb); (try clear hb); (try clear hb2); (try clear hk); (try clear hi)))
        go_meet
        case rel => exact ⟨_, (false), (zE), H', ⟨by first | omega | exact Nat.le_refl _⟩, ⟨zB⟩⟩
    · replace c5 := Bool.eq_false_iff.mpr c5
      subst c5
      replace H := zU H
      have H' := Aside0.mk H
      clear H
      go_wp2_with (first | ((with_reducible refine gate_callee (f := 43) rfl ?_); refine zG (some 13) Tryd.func43 #[.string t240] ?_; (with_reducible refine (budwoodref02_stem.calls k t240 false _ A4.out).mono ?_); rintro e w10 ⟨rfl, hb⟩; refine ⟨_, rfl, ?_⟩; replace HB := Aside0.mk (below_step zB hb); (try clear hb); (try clear hb2); (try clear hk); (try clear hi)))
      go_meet
      case rel => exact ⟨_, (true), (zE), H', ⟨by first | omega | exact Nat.le_refl _⟩, ⟨zB⟩⟩
  case rest =>
    clear HC3
    try clear p2
    try clear c3
    try clear c4
    try clear c5
    try clear c6
    obtain ⟨kq, x22_2, rfl, HA, HJ2, HB⟩ := hcut
    cases kq with
    | zero => exact absurd HA.out (by simp [budwoodref02_Check.j0])
    | succ kj2 =>
      have H := HA.out
      clear HA
      simp only [budwoodref02_Check.j0] at H
      by_cases c11 : x22_2 = true
      · subst c11
        replace H := zT H
        obtain rfl := Option.some.inj H
        go_wp2
        go_ret
        exact ⟨zF, zB⟩
      · replace c11 := Bool.eq_false_iff.mpr c11
        subst c11
        replace H := zU H
        replace H := Option.bind_eq_some_iff.mp H
        obtain ⟨t245, A120, H⟩ := H
        replace H : (if t245 > 24 then (some 5) else (some 0)) = some r := H
        have A12 := Aside0.mk A120
        clear A120
        by_cases c13 : t245 > 24
        · rw [if_pos c13] at H
          have c13b0 : decide (24 < t245) = true := decide_eq_true c13
          clear c13
          obtain rfl := Option.some.inj H
          go_wp2_with (first | ((with_reducible refine gate_callee (f := 45) rfl ?_); refine zG (some 24) Tryd.func45 #[.string a0] ?_; (with_reducible refine (budwoodref02_Runes.calls kj2 a0 t245 _ A12.out).mono ?_); rintro e w14 ⟨rfl, hb⟩; refine ⟨_, rfl, ?_⟩; replace HB := Aside0.mk (below_step zB hb); (try clear hb); (try clear hb2); (try clear hk); (try clear hi)))
          go_ret
          exact ⟨zF, zB⟩
        · rw [if_neg c13] at H
          have c13b0 : decide (24 < t245) = false := decide_eq_false c13
          clear c13
          obtain rfl := Option.some.inj H
          go_wp2_with (first | ((with_reducible refine gate_callee (f := 45) rfl ?_); refine zG (some 24) Tryd.func45 #[.string a0] ?_; (with_reducible refine (budwoodref02_Runes.calls kj2 a0 t245 _ A12.out).mono ?_); rintro e w15 ⟨rfl, hb⟩; refine ⟨_, rfl, ?_⟩; replace HB := Aside0.mk (below_step zB hb); (try clear hb); (try clear hb2); (try clear hk); (try clear hi)))
          go_ret
          exact ⟨zF, zB⟩

end Go.Proofs.YtlgmboaoemlnpaaDoor.P
