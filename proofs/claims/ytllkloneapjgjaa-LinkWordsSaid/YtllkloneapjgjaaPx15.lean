-- WRITTEN BY bud.py (a program of this session's over the kit's print). Not trusted: Lean checks it.
import Derived.Test.YtllkloneapjgjaaPx0
import Derived.Test.YtllkloneapjgjaaPxf
import Derived.Test.YtllkloneapjgjaaPx13
import Derived.Test.YtllkloneapjgjaaPx14
namespace Go.Proofs.Ytllkloneapjgjaa.P
open Go.RowKit Go.Proofs.YtllkloneapjgjaaW.PrintWords Go.Proofs.YtllkloneapjgjaaW.PrintLast Go.Proofs.YtllkloneapjgjaaW.PrintMore
attribute [local go_sem] max2_int min2_int max_two min_two max_three min_three max_four min_four   -- for this text's walks alone
set_option linter.unusedVariables false
set_option linter.unusedSimpArgs false

/-! ### budwoodref01_With: function 51 -/
set_option maxHeartbeats 8000000 in
set_option maxRecDepth 100000 in
theorem budwoodref01_With.calls (k : Nat) (a0 : Int) (a1 : Int) (a2 : Int) (a3 : Int) (r : Int) (w : World) (h : budwoodref01_With.f k a0 a1 a2 a3 = some r) :
    Calls Try.prog 51 #[.int .u32 a0, .int .i64 a1, .int .i64 a2, .int .u32 a3] w fun e w' => e = .returned (.int .u32 r) ∧ Drawn0 w w' := by
  have H : ((budwoodref01_May.f a1 a2).bind fun t249 => (if t249 = true then (budwoodref01_With.l0 k a0 a1 a2 a3 0 0) else (some a0))) = some r := h
  clear h
  replace H := Option.bind_eq_some_iff.mp H
  obtain ⟨t249, A50, H⟩ := H
  replace H : (if t249 = true then (budwoodref01_With.l0 k a0 a1 a2 a3 0 0) else (some a0)) = some r := H
  have A5 := Aside0.mk A50
  clear A50
  by_cases c6 : t249 = true
  · subst c6
    replace H := zT H
    have H' := Aside0.mk H
    clear H
    go_enter Try.func51, Try.ntmps51
    go_wp2_with (first | ((with_reducible refine gate_callee (f := 60) rfl ?_); refine zG (some 13) Try.func60 #[.int .i64 a1, .int .i64 a2] ?_; (with_reducible refine (budwoodref01_May.calls a1 a2 true _ A5.out).mono ?_); rintro e w' ⟨rfl, ⟨nd, rfl⟩⟩; refine ⟨_, rfl, ?_⟩))
    go_loopg [9, 10] k (fun kq v9 v10 w' => ∃ (x9_1 : Int) (x10_1 : Int), v9 = .int .u32 x9_1 ∧ v10 = .int .i64 x10_1 ∧ Aside0 (budwoodref01_With.l0 kq a0 a1 a2 a3 x9_1 x10_1 = some r) ∧ Aside0 (kq ≤ k) ∧ Drawn0 w w')
    case atStart => exact ⟨(0), (0), (zE), (zE), H', ⟨Nat.le_refl _⟩, zD⟩
    case round =>
      clear H'
      try clear p2
      try clear c5
      try clear c6
      obtain ⟨x9_1, x10_1, rfl, rfl, HA, HK1, ⟨m1, rfl⟩⟩ := hrel
      cases gk with
      | zero => exact absurd HA.out (by simp [budwoodref01_With.l0])
      | succ k1 =>
        have H := HA.out
        clear HA
        simp only [budwoodref01_With.l0] at H
        by_cases c7 : x10_1 < 32
        · rw [if_pos c7] at H
          have c7b0 : decide (x10_1 < 32) = true := decide_eq_true c7
          clear c7
          have HC8 := Aside0.mk H
          clear H
          go_upto_region 7 with (fail)
          go_cut [29] (fun v29 wc => ∃ (kq : Nat) (x29_7 : Bool), v29 = .bool x29_7 ∧ Aside0 (budwoodref01_With.j1 kq a0 a1 a2 a3 x9_1 x10_1 x29_7 = some r) ∧ Aside0 (kq ≤ k1) ∧ Drawn0 w wc)
          case first =>
            have H := HC8.out
            clear HC8
            by_cases c9 : x10_1 ≥ a1
            · rw [if_pos c9] at H
              have c9b0 : decide (a1 ≤ x10_1) = true := decide_eq_true c9
              clear c9
              (first | rw [c9b0] | (simp only [i64_w, i32_w]; rw [c9b0]) | skip)
              have H' := Aside0.mk H
              clear H
              go_wp2
              go_meet
              case rel => exact ⟨_, (decide (x10_1 < (wrap64 (a1 + a2)))), (zE), H', ⟨by have := HK1.out; first | omega | exact Nat.le_refl _⟩, zD⟩
            · rw [if_neg c9] at H
              have c9b0 : decide (a1 ≤ x10_1) = false := decide_eq_false c9
              clear c9
              (first | rw [c9b0] | (simp only [i64_w, i32_w]; rw [c9b0]) | skip)
              have H' := Aside0.mk H
              clear H
              go_wp2
              go_meet
              case rel => exact ⟨_, (false), (zE), H', ⟨by have := HK1.out; first | omega | exact Nat.le_refl _⟩, zD⟩
          case rest =>
            clear HC8
            try clear p2
            try clear c5
            try clear c6
            try clear p6
            try clear c7
            try clear c7b0
            try clear c9
            try clear c9b0
            try clear p2
            obtain ⟨kq, x29_7, rfl, HA, HJ7, ⟨mc7, rfl⟩⟩ := hcut
            cases kq with
            | zero => exact absurd HA.out (by simp [budwoodref01_With.j1])
            | succ kj7 =>
              have H := HA.out
              clear HA
              simp only [budwoodref01_With.j1] at H
              by_cases c10 : x29_7 = true
              · subst c10
                replace H := zT H
                replace H := Option.bind_eq_some_iff.mp H
                obtain ⟨t250, A110, H⟩ := H
                replace H : (if 0 ≤ (IntKind.u64.wrap (x10_1)) then (budwoodref01_With.l0 kj7 a0 a1 a2 a3 (Go.bits .or .u32 x9_1 (shl .u32 t250 (IntKind.u64.wrap (x10_1)))) (wrap64 (x10_1 + 1))) else (none)) = some r := H
                have A11 := Aside0.mk A110
                clear A110
                obtain ⟨ji12, hji12⟩ : ∃ j_ : Int, (IntKind.u64.wrap (x10_1)) = j_ := ⟨_, rfl⟩
                replace H : (if 0 ≤ (ji12) then (budwoodref01_With.l0 kj7 a0 a1 a2 a3 (Go.bits .or .u32 x9_1 (shl .u32 t250 (ji12))) (wrap64 (x10_1 + 1))) else (none)) = some r := by first | (rw [hji12] at H; exact H) | (simp only [hji12] at H ⊢; exact H)
                (try rw [hji12] at A11)
                by_cases c13 : 0 ≤ (ji12)
                · rw [if_pos c13] at H
                  have c13b0 := eq_true c13
                  have c13b1 : decide (0 ≤ (ji12)) = true := decide_eq_true c13
                  clear c13
                  obtain ⟨ji14, hji14⟩ : ∃ j_ : Int, (shl .u32 t250 (ji12)) = j_ := ⟨_, rfl⟩
                  replace H : (budwoodref01_With.l0 kj7 a0 a1 a2 a3 (Go.bits .or .u32 x9_1 (ji14)) (wrap64 (x10_1 + 1))) = some r := by first | (rw [hji14] at H; exact H) | (simp only [hji14] at H ⊢; exact H)
                  (try rw [hji14] at A11)
                  have hji14_ : (IntKind.u32.wrap (t250 * 2 ^ min (ji12).toNat 32)) = ji14 := hji14
                  have hji14z : (ji12) ≤ 32 → (IntKind.u32.wrap (t250 * 2 ^ (ji12).toNat)) = ji14 := shl_small hji14
                  have H' := Aside0.mk H
                  clear H
                  go_wp2_with (first | ((with_reducible refine gate_callee (f := 61) rfl ?_); refine zG (some 35) Try.func61 #[.int .u32 a3, .int .i64 (wrap64 (x10_1 - a1))] ?_; (with_reducible refine (budwoodref01_bit.calls a3 (wrap64 (x10_1 - a1)) t250 _ A11.out).mono ?_); rintro e w' ⟨rfl, ⟨nd, rfl⟩⟩; refine ⟨_, rfl, ?_⟩))
                  go_roundg kj7
                  case measure => have := HK1.out; have := HJ7.out; omega
                  case rel => exact ⟨(Go.bits .or .u32 x9_1 (ji14)), (wrap64 (x10_1 + 1)), (by first | rfl | (simp; done) | (simp only [← hji14] <;> (first | rfl | simp)) | (simp [*]; done)), (zE), H', ⟨by have := HK1.out; have := HJ7.out; omega⟩, zD⟩
                · rw [if_neg c13] at H
                  exact absurd H (by simp)
              · replace c10 := Bool.eq_false_iff.mpr c10
                subst c10
                replace H := zU H
                replace H := Option.bind_eq_some_iff.mp H
                obtain ⟨t251, A150, H⟩ := H
                replace H : (if 0 ≤ (IntKind.u64.wrap (x10_1)) then (budwoodref01_With.l0 kj7 a0 a1 a2 a3 (Go.bits .or .u32 x9_1 (shl .u32 t251 (IntKind.u64.wrap (x10_1)))) (wrap64 (x10_1 + 1))) else (none)) = some r := H
                have A15 := Aside0.mk A150
                clear A150
                obtain ⟨ji16, hji16⟩ : ∃ j_ : Int, (IntKind.u64.wrap (x10_1)) = j_ := ⟨_, rfl⟩
                replace H : (if 0 ≤ (ji16) then (budwoodref01_With.l0 kj7 a0 a1 a2 a3 (Go.bits .or .u32 x9_1 (shl .u32 t251 (ji16))) (wrap64 (x10_1 + 1))) else (none)) = some r := by first | (rw [hji16] at H; exact H) | (simp only [hji16] at H ⊢; exact H)
                (try rw [hji16] at A15)
                by_cases c17 : 0 ≤ (ji16)
                · rw [if_pos c17] at H
                  have c17b0 := eq_true c17
                  have c17b1 : decide (0 ≤ (ji16)) = true := decide_eq_true c17
                  clear c17
                  obtain ⟨ji18, hji18⟩ : ∃ j_ : Int, (shl .u32 t251 (ji16)) = j_ := ⟨_, rfl⟩
                  replace H : (budwoodref01_With.l0 kj7 a0 a1 a2 a3 (Go.bits .or .u32 x9_1 (ji18)) (wrap64 (x10_1 + 1))) = some r := by first | (rw [hji18] at H; exact H) | (simp only [hji18] at H ⊢; exact H)
                  (try rw [hji18] at A15)
                  have hji18_ : (IntKind.u32.wrap (t251 * 2 ^ min (ji16).toNat 32)) = ji18 := hji18
                  have hji18z : (ji16) ≤ 32 → (IntKind.u32.wrap (t251 * 2 ^ (ji16).toNat)) = ji18 := shl_small hji18
                  have H' := Aside0.mk H
                  clear H
                  go_wp2_with (first | ((with_reducible refine gate_callee (f := 61) rfl ?_); refine zG (some 43) Try.func61 #[.int .u32 a0, .int .i64 x10_1] ?_; (with_reducible refine (budwoodref01_bit.calls a0 x10_1 t251 _ A15.out).mono ?_); rintro e w' ⟨rfl, ⟨nd, rfl⟩⟩; refine ⟨_, rfl, ?_⟩))
                  go_roundg kj7
                  case measure => have := HK1.out; have := HJ7.out; omega
                  case rel => exact ⟨(Go.bits .or .u32 x9_1 (ji18)), (wrap64 (x10_1 + 1)), (by first | rfl | (simp; done) | (simp only [← hji18] <;> (first | rfl | simp)) | (simp [*]; done)), (zE), H', ⟨by have := HK1.out; have := HJ7.out; omega⟩, zD⟩
                · rw [if_neg c17] at H
                  exact absurd H (by simp)
        · rw [if_neg c7] at H
          have c7b0 : decide (x10_1 < 32) = false := decide_eq_false c7
          clear c7
          obtain rfl := Option.some.inj H
          go_wp2
          go_ret
          exact ⟨zE, zD⟩
  · replace c6 := Bool.eq_false_iff.mpr c6
    subst c6
    replace H := zU H
    obtain rfl := Option.some.inj H
    go_enter Try.func51, Try.ntmps51
    go_wp2_with (first | ((with_reducible refine gate_callee (f := 60) rfl ?_); refine zG (some 13) Try.func60 #[.int .i64 a1, .int .i64 a2] ?_; (with_reducible refine (budwoodref01_May.calls a1 a2 false _ A5.out).mono ?_); rintro e w' ⟨rfl, ⟨nd, rfl⟩⟩; refine ⟨_, rfl, ?_⟩))
    go_ret
    exact ⟨zE, zD⟩

/-! ### budwoodref01_Bits: function 47 -/
set_option maxHeartbeats 8000000 in
set_option maxRecDepth 100000 in
theorem budwoodref01_Bits.calls (k : Nat) (a0 : Int) (a1 : Int) (a2 : Int) (r : Int) (w : World) (h : budwoodref01_Bits.f k a0 a1 a2 = some r) :
    Calls Try.prog 47 #[.int .u32 a0, .int .i64 a1, .int .i64 a2] w fun e w' => e = .returned (.int .u32 r) ∧ Drawn0 w w' := by
  have H : ((budwoodref01_May.f a1 a2).bind fun t252 => (if t252 = true then (budwoodref01_Bits.l0 k a0 a1 a2 0 0) else (some 0))) = some r := h
  clear h
  replace H := Option.bind_eq_some_iff.mp H
  obtain ⟨t252, A40, H⟩ := H
  replace H : (if t252 = true then (budwoodref01_Bits.l0 k a0 a1 a2 0 0) else (some 0)) = some r := H
  have A4 := Aside0.mk A40
  clear A40
  by_cases c5 : t252 = true
  · subst c5
    replace H := zT H
    have H' := Aside0.mk H
    clear H
    go_enter Try.func47, Try.ntmps47
    go_wp2_with (first | ((with_reducible refine gate_callee (f := 60) rfl ?_); refine zG (some 11) Try.func60 #[.int .i64 a1, .int .i64 a2] ?_; (with_reducible refine (budwoodref01_May.calls a1 a2 true _ A4.out).mono ?_); rintro e w' ⟨rfl, ⟨nd, rfl⟩⟩; refine ⟨_, rfl, ?_⟩))
    go_loopg [7, 8] k (fun kq v7 v8 w' => ∃ (x7_1 : Int) (x8_1 : Int), v7 = .int .u32 x7_1 ∧ v8 = .int .i64 x8_1 ∧ Aside0 (budwoodref01_Bits.l0 kq a0 a1 a2 x7_1 x8_1 = some r) ∧ Aside0 (kq ≤ k) ∧ Drawn0 w w')
    case atStart => exact ⟨(0), (0), (zE), (zE), H', ⟨Nat.le_refl _⟩, zD⟩
    case round =>
      clear H'
      try clear p2
      try clear c4
      try clear c5
      obtain ⟨x7_1, x8_1, rfl, rfl, HA, HK1, ⟨m1, rfl⟩⟩ := hrel
      cases gk with
      | zero => exact absurd HA.out (by simp [budwoodref01_Bits.l0])
      | succ k1 =>
        have H := HA.out
        clear HA
        simp only [budwoodref01_Bits.l0] at H
        by_cases c6 : x8_1 < a2
        · rw [if_pos c6] at H
          have c6b0 : decide (x8_1 < a2) = true := decide_eq_true c6
          clear c6
          replace H := Option.bind_eq_some_iff.mp H
          obtain ⟨t253, A70, H⟩ := H
          replace H : (if 0 ≤ (IntKind.u64.wrap (x8_1)) then (budwoodref01_Bits.l0 k1 a0 a1 a2 (Go.bits .or .u32 x7_1 (shl .u32 t253 (IntKind.u64.wrap (x8_1)))) (wrap64 (x8_1 + 1))) else (none)) = some r := H
          have A7 := Aside0.mk A70
          clear A70
          obtain ⟨ji8, hji8⟩ : ∃ j_ : Int, (IntKind.u64.wrap (x8_1)) = j_ := ⟨_, rfl⟩
          replace H : (if 0 ≤ (ji8) then (budwoodref01_Bits.l0 k1 a0 a1 a2 (Go.bits .or .u32 x7_1 (shl .u32 t253 (ji8))) (wrap64 (x8_1 + 1))) else (none)) = some r := by first | (rw [hji8] at H; exact H) | (simp only [hji8] at H ⊢; exact H)
          (try rw [hji8] at A7)
          by_cases c9 : 0 ≤ (ji8)
          · rw [if_pos c9] at H
            have c9b0 := eq_true c9
            have c9b1 : decide (0 ≤ (ji8)) = true := decide_eq_true c9
            clear c9
            obtain ⟨ji10, hji10⟩ : ∃ j_ : Int, (shl .u32 t253 (ji8)) = j_ := ⟨_, rfl⟩
            replace H : (budwoodref01_Bits.l0 k1 a0 a1 a2 (Go.bits .or .u32 x7_1 (ji10)) (wrap64 (x8_1 + 1))) = some r := by first | (rw [hji10] at H; exact H) | (simp only [hji10] at H ⊢; exact H)
            (try rw [hji10] at A7)
            have hji10_ : (IntKind.u32.wrap (t253 * 2 ^ min (ji8).toNat 32)) = ji10 := hji10
            have hji10z : (ji8) ≤ 32 → (IntKind.u32.wrap (t253 * 2 ^ (ji8).toNat)) = ji10 := shl_small hji10
            have H' := Aside0.mk H
            clear H
            go_wp2_with (first | ((with_reducible refine gate_callee (f := 61) rfl ?_); refine zG (some 23) Try.func61 #[.int .u32 a0, .int .i64 (wrap64 (a1 + x8_1))] ?_; (with_reducible refine (budwoodref01_bit.calls a0 (wrap64 (a1 + x8_1)) t253 _ A7.out).mono ?_); rintro e w' ⟨rfl, ⟨nd, rfl⟩⟩; refine ⟨_, rfl, ?_⟩))
            go_roundg k1
            case measure => have := HK1.out; omega
            case rel => exact ⟨(Go.bits .or .u32 x7_1 (ji10)), (wrap64 (x8_1 + 1)), (by first | rfl | (simp; done) | (simp only [← hji10] <;> (first | rfl | simp)) | (simp [*]; done)), (zE), H', ⟨by have := HK1.out; omega⟩, zD⟩
          · rw [if_neg c9] at H
            exact absurd H (by simp)
        · rw [if_neg c6] at H
          have c6b0 : decide (x8_1 < a2) = false := decide_eq_false c6
          clear c6
          obtain rfl := Option.some.inj H
          go_wp2
          go_ret
          exact ⟨zE, zD⟩
  · replace c5 := Bool.eq_false_iff.mpr c5
    subst c5
    replace H := zU H
    obtain rfl := Option.some.inj H
    go_enter Try.func47, Try.ntmps47
    go_wp2_with (first | ((with_reducible refine gate_callee (f := 60) rfl ?_); refine zG (some 11) Try.func60 #[.int .i64 a1, .int .i64 a2] ?_; (with_reducible refine (budwoodref01_May.calls a1 a2 false _ A4.out).mono ?_); rintro e w' ⟨rfl, ⟨nd, rfl⟩⟩; refine ⟨_, rfl, ?_⟩))
    go_ret
    exact ⟨zE, zD⟩

/-! ### budwoodref01_Cut: function 52 -/
set_option maxHeartbeats 8000000 in
set_option maxRecDepth 100000 in
theorem budwoodref01_Cut.calls (k : Nat) (a0 : Int) (a1 : Int) (r : Int) (w : World) (h : budwoodref01_Cut.f k a0 a1 = some r) :
    Calls Try.prog 52 #[.int .i32 a0, .int .i64 a1] w fun e w' => e = .returned (.int .u32 r) ∧ Below w.heap.size w w' := by
  have HB := Aside0.mk (Below.refl w.heap.size w)
  have H : (if a1 < 1 then (some 0) else ((budwoodref01_Bits.f k ((a0) % 4294967296) 0 (mn a1 32)).bind fun t254 => (some t254))) = some r := h
  clear h
  by_cases c3 : a1 < 1
  · rw [if_pos c3] at H
    have c3b0 : decide (a1 < 1) = true := decide_eq_true c3
    clear c3
    obtain rfl := Option.some.inj H
    go_enter Try.func52, Try.ntmps52
    go_wp2
    go_ret
    exact ⟨zF, zB⟩
  · rw [if_neg c3] at H
    have c3b0 : decide (a1 < 1) = false := decide_eq_false c3
    clear c3
    obtain ⟨ji4, hji4⟩ : ∃ j_ : Int, (mn a1 32) = j_ := ⟨_, rfl⟩
    replace H : ((budwoodref01_Bits.f k ((a0) % 4294967296) 0 (ji4)).bind fun t254 => (some t254)) = some r := by first | (rw [hji4] at H; exact H) | (simp only [hji4] at H ⊢; exact H)
    (try (have hji4h : ji4 ≤ 32 := by (rw [← hji4]; unfold mn; (repeat' split) <;> omega)))
    (try (have hji4g : ji4 ≤ 64 := by omega))
    have hji4_ : (if 32 < a1 then 32 else a1) = ji4 := hji4
    replace H := Option.bind_eq_some_iff.mp H
    obtain ⟨t254, A50, H⟩ := H
    replace H : (some t254) = some r := H
    have A5 := Aside0.mk A50
    clear A50
    obtain rfl := Option.some.inj H
    go_enter Try.func52, Try.ntmps52
    go_wp2_with (first | ((with_reducible refine gate_callee (f := 47) rfl ?_); refine goesL_ (some 11) rfl rfl Try.func47 (by kernel_rfl) rfl #[.int .u32 ((a0) % 4294967296), .int .i64 0, .int .i64 ji4] rfl (by (try simp only [List.map_toArray, List.map_cons, List.map_nil]); first | done | (simp only [hji4]; rfl) | rfl | (simp only [List.length_drop, List.length_take]; rfl)) ?_; (with_reducible refine (budwoodref01_Bits.calls k ((a0) % 4294967296) 0 ji4 t254 _ A5.out).mono ?_); rintro e w' ⟨rfl, ⟨nd, rfl⟩⟩; refine ⟨_, rfl, ?_⟩))
    go_ret
    exact ⟨by first | rfl | (simp [errW_none, errW_some] <;> rfl) | (simp only [← hji4]; first | rfl | (simp [errW_none, errW_some] <;> rfl)) | (simp [*, errW_none, errW_some] <;> rfl), zB⟩

/-! ### budwoodref04_Encode: function 40 -/
set_option maxHeartbeats 8000000 in
set_option maxRecDepth 100000 in
theorem budwoodref04_Encode.calls (k : Nat) (a0_0 : Int) (a0_1 : Int) (a0_2 : Int) (a0_3 : Int) (a0_4 : Int) (r1 : Int) (r2 : Int) (w : World) (h : budwoodref04_Encode.f k a0_0 a0_1 a0_2 a0_3 a0_4 = some (r1, r2)) :
    Calls Try.prog 40 #[.agg #[.int .u8 a0_0, .int .u8 a0_1, .int .u8 a0_2, .int .u8 a0_3, .int .i32 a0_4]] w fun e w' => e = .returned (.tuple #[.int .u32 r1, .int .i64 r2]) ∧ Below w.heap.size w w' := by
  have hu75 := Try.underlying75
  have hix91_2 : ∀ (x0 x1 x2 x3 : Value) (W : World), (Instr.index 91 (.agg #[x0, x1, x2, x3]) (.int .i64 2)).run Try.prog W = .ok x2 W := fun _ _ _ _ _ => by kernel_rfl
  have HB := Aside0.mk (Below.refl w.heap.size w)
  have H : ((budwoodref04_Check.f k a0_0 a0_1 a0_2 a0_3 a0_4).bind fun t256 => (if t256 = 0 then ((budwoodref01_With.f k 0 27 5 ((a0_0) % 4294967296)).bind fun t257 => ((budwoodref01_With.f k t257 24 3 ((a0_1) % 4294967296)).bind fun t258 => ((budwoodref01_With.f k t258 21 3 ((a0_2) % 4294967296)).bind fun t259 => ((budwoodref04_Uses.f k a0_0).bind fun bt260 => (if bt260.2.2.1 = true then ((budwoodref01_With.f k t259 0 21 ((a0_3) % 4294967296)).bind fun t264 => (some (t264, 0))) else ((budwoodref01_Cut.f k a0_4 21).bind fun t265 => ((budwoodref01_With.f k t259 0 21 t265).bind fun t266 => (some (t266, 0))))))))) else (some (0, t256)))) = some (r1, r2) := h
  clear h
  replace H := Option.bind_eq_some_iff.mp H
  obtain ⟨t256, A20, H⟩ := H
  replace H : (if t256 = 0 then ((budwoodref01_With.f k 0 27 5 ((a0_0) % 4294967296)).bind fun t257 => ((budwoodref01_With.f k t257 24 3 ((a0_1) % 4294967296)).bind fun t258 => ((budwoodref01_With.f k t258 21 3 ((a0_2) % 4294967296)).bind fun t259 => ((budwoodref04_Uses.f k a0_0).bind fun bt260 => (if bt260.2.2.1 = true then ((budwoodref01_With.f k t259 0 21 ((a0_3) % 4294967296)).bind fun t264 => (some (t264, 0))) else ((budwoodref01_Cut.f k a0_4 21).bind fun t265 => ((budwoodref01_With.f k t259 0 21 t265).bind fun t266 => (some (t266, 0))))))))) else (some (0, t256))) = some (r1, r2) := H
  have A2 := Aside0.mk A20
  clear A20
  by_cases c3 : t256 = 0
  · rw [if_pos c3] at H
    have c3b0 : (t256 == 0) = true := beq_iff_eq.mpr c3
    have c3b1 : (t256 != 0) = false := bne_eq_false_iff_eq.mpr c3
    clear c3
    replace H := Option.bind_eq_some_iff.mp H
    obtain ⟨t257, A40, H⟩ := H
    replace H : ((budwoodref01_With.f k t257 24 3 ((a0_1) % 4294967296)).bind fun t258 => ((budwoodref01_With.f k t258 21 3 ((a0_2) % 4294967296)).bind fun t259 => ((budwoodref04_Uses.f k a0_0).bind fun bt260 => (if bt260.2.2.1 = true then ((budwoodref01_With.f k t259 0 21 ((a0_3) % 4294967296)).bind fun t264 => (some (t264, 0))) else ((budwoodref01_Cut.f k a0_4 21).bind fun t265 => ((budwoodref01_With.f k t259 0 21 t265).bind fun t266 => (some (t266, 0)))))))) = some (r1, r2) := H
    have A4 := Aside0.mk A40
    clear A40
    replace H := Option.bind_eq_some_iff.mp H
    obtain ⟨t258, A50, H⟩ := H
    replace H : ((budwoodref01_With.f k t258 21 3 ((a0_2) % 4294967296)).bind fun t259 => ((budwoodref04_Uses.f k a0_0).bind fun bt260 => (if bt260.2.2.1 = true then ((budwoodref01_With.f k t259 0 21 ((a0_3) % 4294967296)).bind fun t264 => (some (t264, 0))) else ((budwoodref01_Cut.f k a0_4 21).bind fun t265 => ((budwoodref01_With.f k t259 0 21 t265).bind fun t266 => (some (t266, 0))))))) = some (r1, r2) := H
    have A5 := Aside0.mk A50
    clear A50
    replace H := Option.bind_eq_some_iff.mp H
    obtain ⟨t259, A60, H⟩ := H
    replace H : ((budwoodref04_Uses.f k a0_0).bind fun bt260 => (if bt260.2.2.1 = true then ((budwoodref01_With.f k t259 0 21 ((a0_3) % 4294967296)).bind fun t264 => (some (t264, 0))) else ((budwoodref01_Cut.f k a0_4 21).bind fun t265 => ((budwoodref01_With.f k t259 0 21 t265).bind fun t266 => (some (t266, 0)))))) = some (r1, r2) := H
    have A6 := Aside0.mk A60
    clear A60
    replace H := Option.bind_eq_some_iff.mp H
    obtain ⟨⟨t260, t261, t262, t263⟩, A70, H⟩ := H
    replace H : (if t262 = true then ((budwoodref01_With.f k t259 0 21 ((a0_3) % 4294967296)).bind fun t264 => (some (t264, 0))) else ((budwoodref01_Cut.f k a0_4 21).bind fun t265 => ((budwoodref01_With.f k t259 0 21 t265).bind fun t266 => (some (t266, 0))))) = some (r1, r2) := H
    have A7 := Aside0.mk A70
    clear A70
    by_cases c8 : t262 = true
    · subst c8
      replace H := zT H
      replace H := Option.bind_eq_some_iff.mp H
      obtain ⟨t264, A90, H⟩ := H
      replace H : (some (t264, 0)) = some (r1, r2) := H
      have A9 := Aside0.mk A90
      clear A90
      simp only [Option.some.injEq, Prod.mk.injEq] at H
      obtain ⟨rfl, rfl⟩ := H
      go_enter Try.func40, Try.ntmps40
      go_wp2_with (first | ((with_reducible refine gate_dst (N := 1) rfl ?_); refine zX (N := 1) (cs := #[.int .u8 a0_0, .int .u8 a0_1, .int .u8 a0_2, .int .u8 a0_3, .int .i32 a0_4]) (t := 75) ?_ ?_; (focus first | (go_simp; done) | (go_simp; rfl)); intro gb255 hg w10 hbox hb; have BK255 := Aside0.mk (hbox); have GW255 := Aside0.mk (zS hg : w.heap.size ≤ gb255); have GE255 := Aside0.mk (zS hg : w.heap.size ≤ gb255); replace HB := Aside0.mk (below_step zB hb); clear hb hbox hg; obtain ⟨hcz11_0, hcz11_1, hcz11_2, hcz11_3, hcz11_4⟩ := zc5 BK255; obtain ⟨hfz11_0, hfz11_1, hfz11_2, hfz11_3, hfz11_4⟩ := zf5 BK255) | ((with_reducible refine gate_callee (f := 50) rfl ?_); refine zG (some 7) Try.func50 #[.agg #[.int .u8 a0_0, .int .u8 a0_1, .int .u8 a0_2, .int .u8 a0_3, .int .i32 a0_4]] ?_; (with_reducible refine (budwoodref04_Check.calls k a0_0 a0_1 a0_2 a0_3 a0_4 t256 _ A2.out).mono ?_); rintro e w12 ⟨rfl, hb⟩; refine ⟨_, rfl, ?_⟩; replace BK255 := Aside0.mk (zL BK255 hb); replace HB := Aside0.mk (below_step zB hb); (try clear hb); (try clear hb2); (try clear hk); (try clear hi); obtain ⟨hcz13_0, hcz13_1, hcz13_2, hcz13_3, hcz13_4⟩ := zc5 BK255; obtain ⟨hfz13_0, hfz13_1, hfz13_2, hfz13_3, hfz13_4⟩ := zf5 BK255) | ((with_reducible refine gate_callee (f := 51) rfl ?_); refine zG (some 14) Try.func51 #[.int .u32 0, .int .i64 27, .int .i64 5, .int .u32 ((a0_0) % 4294967296)] ?_; (with_reducible refine (budwoodref01_With.calls k 0 27 5 ((a0_0) % 4294967296) t257 _ A4.out).mono ?_); rintro e w' ⟨rfl, ⟨nd, rfl⟩⟩; refine ⟨_, rfl, ?_⟩) | ((with_reducible refine gate_callee (f := 51) rfl ?_); refine zG (some 19) Try.func51 #[.int .u32 t257, .int .i64 24, .int .i64 3, .int .u32 ((a0_1) % 4294967296)] ?_; (with_reducible refine (budwoodref01_With.calls k t257 24 3 ((a0_1) % 4294967296) t258 _ A5.out).mono ?_); rintro e w' ⟨rfl, ⟨nd, rfl⟩⟩; refine ⟨_, rfl, ?_⟩) | ((with_reducible refine gate_callee (f := 51) rfl ?_); refine zG (some 24) Try.func51 #[.int .u32 t258, .int .i64 21, .int .i64 3, .int .u32 ((a0_2) % 4294967296)] ?_; (with_reducible refine (budwoodref01_With.calls k t258 21 3 ((a0_2) % 4294967296) t259 _ A6.out).mono ?_); rintro e w' ⟨rfl, ⟨nd, rfl⟩⟩; refine ⟨_, rfl, ?_⟩) | ((with_reducible refine gate_callee (f := 48) rfl ?_); refine zG (some 27) Try.func48 #[.int .u8 a0_0] ?_; (with_reducible refine (budwoodref04_Uses.calls k a0_0 t260 t261 true t263 _ A7.out).mono ?_); rintro e w14 ⟨rfl, hb⟩; refine ⟨_, rfl, ?_⟩; replace BK255 := Aside0.mk (zL BK255 hb); replace HB := Aside0.mk (below_step zB hb); (try clear hb); (try clear hb2); (try clear hk); (try clear hi); obtain ⟨hcz15_0, hcz15_1, hcz15_2, hcz15_3, hcz15_4⟩ := zc5 BK255; obtain ⟨hfz15_0, hfz15_1, hfz15_2, hfz15_3, hfz15_4⟩ := zf5 BK255) | ((with_reducible refine gate_callee (f := 51) rfl ?_); refine zG (some 33) Try.func51 #[.int .u32 t259, .int .i64 0, .int .i64 21, .int .u32 ((a0_3) % 4294967296)] ?_; (with_reducible refine (budwoodref01_With.calls k t259 0 21 ((a0_3) % 4294967296) t264 _ A9.out).mono ?_); rintro e w' ⟨rfl, ⟨nd, rfl⟩⟩; refine ⟨_, rfl, ?_⟩))
      go_ret2
      exact ⟨zF, zB⟩
    · replace c8 := Bool.eq_false_iff.mpr c8
      subst c8
      replace H := zU H
      replace H := Option.bind_eq_some_iff.mp H
      obtain ⟨t265, A160, H⟩ := H
      replace H : ((budwoodref01_With.f k t259 0 21 t265).bind fun t266 => (some (t266, 0))) = some (r1, r2) := H
      have A16 := Aside0.mk A160
      clear A160
      replace H := Option.bind_eq_some_iff.mp H
      obtain ⟨t266, A170, H⟩ := H
      replace H : (some (t266, 0)) = some (r1, r2) := H
      have A17 := Aside0.mk A170
      clear A170
      simp only [Option.some.injEq, Prod.mk.injEq] at H
      obtain ⟨rfl, rfl⟩ := H
      go_enter Try.func40, Try.ntmps40
      go_wp2_with (first | ((with_reducible refine gate_dst (N := 1) rfl ?_); refine zX (N := 1) (cs := #[.int .u8 a0_0, .int .u8 a0_1, .int .u8 a0_2, .int .u8 a0_3, .int .i32 a0_4]) (t := 75) ?_ ?_; (focus first | (go_simp; done) | (go_simp; rfl)); intro gb255 hg w18 hbox hb; have BK255 := Aside0.mk (hbox); have GW255 := Aside0.mk (zS hg : w.heap.size ≤ gb255); have GE255 := Aside0.mk (zS hg : w.heap.size ≤ gb255); replace HB := Aside0.mk (below_step zB hb); clear hb hbox hg; obtain ⟨hcz19_0, hcz19_1, hcz19_2, hcz19_3, hcz19_4⟩ := zc5 BK255; obtain ⟨hfz19_0, hfz19_1, hfz19_2, hfz19_3, hfz19_4⟩ := zf5 BK255) | ((with_reducible refine gate_callee (f := 50) rfl ?_); refine zG (some 7) Try.func50 #[.agg #[.int .u8 a0_0, .int .u8 a0_1, .int .u8 a0_2, .int .u8 a0_3, .int .i32 a0_4]] ?_; (with_reducible refine (budwoodref04_Check.calls k a0_0 a0_1 a0_2 a0_3 a0_4 t256 _ A2.out).mono ?_); rintro e w20 ⟨rfl, hb⟩; refine ⟨_, rfl, ?_⟩; replace BK255 := Aside0.mk (zL BK255 hb); replace HB := Aside0.mk (below_step zB hb); (try clear hb); (try clear hb2); (try clear hk); (try clear hi); obtain ⟨hcz21_0, hcz21_1, hcz21_2, hcz21_3, hcz21_4⟩ := zc5 BK255; obtain ⟨hfz21_0, hfz21_1, hfz21_2, hfz21_3, hfz21_4⟩ := zf5 BK255) | ((with_reducible refine gate_callee (f := 51) rfl ?_); refine zG (some 14) Try.func51 #[.int .u32 0, .int .i64 27, .int .i64 5, .int .u32 ((a0_0) % 4294967296)] ?_; (with_reducible refine (budwoodref01_With.calls k 0 27 5 ((a0_0) % 4294967296) t257 _ A4.out).mono ?_); rintro e w' ⟨rfl, ⟨nd, rfl⟩⟩; refine ⟨_, rfl, ?_⟩) | ((with_reducible refine gate_callee (f := 51) rfl ?_); refine zG (some 19) Try.func51 #[.int .u32 t257, .int .i64 24, .int .i64 3, .int .u32 ((a0_1) % 4294967296)] ?_; (with_reducible refine (budwoodref01_With.calls k t257 24 3 ((a0_1) % 4294967296) t258 _ A5.out).mono ?_); rintro e w' ⟨rfl, ⟨nd, rfl⟩⟩; refine ⟨_, rfl, ?_⟩) | ((with_reducible refine gate_callee (f := 51) rfl ?_); refine zG (some 24) Try.func51 #[.int .u32 t258, .int .i64 21, .int .i64 3, .int .u32 ((a0_2) % 4294967296)] ?_; (with_reducible refine (budwoodref01_With.calls k t258 21 3 ((a0_2) % 4294967296) t259 _ A6.out).mono ?_); rintro e w' ⟨rfl, ⟨nd, rfl⟩⟩; refine ⟨_, rfl, ?_⟩) | ((with_reducible refine gate_callee (f := 48) rfl ?_); refine zG (some 27) Try.func48 #[.int .u8 a0_0] ?_; (with_reducible refine (budwoodref04_Uses.calls k a0_0 t260 t261 false t263 _ A7.out).mono ?_); rintro e w22 ⟨rfl, hb⟩; refine ⟨_, rfl, ?_⟩; replace BK255 := Aside0.mk (zL BK255 hb); replace HB := Aside0.mk (below_step zB hb); (try clear hb); (try clear hb2); (try clear hk); (try clear hi); obtain ⟨hcz23_0, hcz23_1, hcz23_2, hcz23_3, hcz23_4⟩ := zc5 BK255; obtain ⟨hfz23_0, hfz23_1, hfz23_2, hfz23_3, hfz23_4⟩ := zf5 BK255) | ((with_reducible refine gate_callee (f := 52) rfl ?_); refine zG (some 37) Try.func52 #[.int .i32 a0_4, .int .i64 21] ?_; (with_reducible refine (budwoodref01_Cut.calls k a0_4 21 t265 _ A16.out).mono ?_); rintro e w24 ⟨rfl, hb⟩; refine ⟨_, rfl, ?_⟩; replace BK255 := Aside0.mk (zL BK255 hb); replace HB := Aside0.mk (below_step zB hb); (try clear hb); (try clear hb2); (try clear hk); (try clear hi)) | ((with_reducible refine gate_callee (f := 51) rfl ?_); refine zG (some 38) Try.func51 #[.int .u32 t259, .int .i64 0, .int .i64 21, .int .u32 t265] ?_; (with_reducible refine (budwoodref01_With.calls k t259 0 21 t265 t266 _ A17.out).mono ?_); rintro e w' ⟨rfl, ⟨nd, rfl⟩⟩; refine ⟨_, rfl, ?_⟩))
      go_ret2
      exact ⟨zF, zB⟩
  · rw [if_neg c3] at H
    have c3b0 : (t256 == 0) = false := beq_eq_false_iff_ne.mpr c3
    have c3b1 : (t256 != 0) = true := bne_iff_ne.mpr c3
    simp only [Option.some.injEq, Prod.mk.injEq] at H
    obtain ⟨rfl, rfl⟩ := H
    go_enter Try.func40, Try.ntmps40
    go_wp2_with (first | ((with_reducible refine gate_dst (N := 1) rfl ?_); refine zX (N := 1) (cs := #[.int .u8 a0_0, .int .u8 a0_1, .int .u8 a0_2, .int .u8 a0_3, .int .i32 a0_4]) (t := 75) ?_ ?_; (focus first | (go_simp; done) | (go_simp; rfl)); intro gb255 hg w25 hbox hb; have BK255 := Aside0.mk (hbox); have GW255 := Aside0.mk (zS hg : w.heap.size ≤ gb255); have GE255 := Aside0.mk (zS hg : w.heap.size ≤ gb255); replace HB := Aside0.mk (below_step zB hb); clear hb hbox hg; obtain ⟨hcz26_0, hcz26_1, hcz26_2, hcz26_3, hcz26_4⟩ := zc5 BK255; obtain ⟨hfz26_0, hfz26_1, hfz26_2, hfz26_3, hfz26_4⟩ := zf5 BK255) | ((with_reducible refine gate_callee (f := 50) rfl ?_); refine zG (some 7) Try.func50 #[.agg #[.int .u8 a0_0, .int .u8 a0_1, .int .u8 a0_2, .int .u8 a0_3, .int .i32 a0_4]] ?_; (with_reducible refine (budwoodref04_Check.calls k a0_0 a0_1 a0_2 a0_3 a0_4 t256 _ A2.out).mono ?_); rintro e w27 ⟨rfl, hb⟩; refine ⟨_, rfl, ?_⟩; replace BK255 := Aside0.mk (zL BK255 hb); replace HB := Aside0.mk (below_step zB hb); (try clear hb); (try clear hb2); (try clear hk); (try clear hi)))
    go_ret2
    exact ⟨zF, zB⟩

/-! ### budwoodref01_Signed: function 49 -/
set_option maxHeartbeats 8000000 in
set_option maxRecDepth 100000 in
theorem budwoodref01_Signed.calls (k : Nat) (a0 : Int) (a1 : Int) (r : Int) (w : World) (h : budwoodref01_Signed.f k a0 a1 = some r) :
    Calls Try.prog 49 #[.int .u32 a0, .int .i64 a1] w fun e w' => e = .returned (.int .i32 r) ∧ Drawn0 w w' := by
  have H : (if a1 < 1 then (budwoodref01_Signed.j0 k a0 a1 true) else (budwoodref01_Signed.j0 k a0 a1 (decide (a1 > 32)))) = some r := h
  clear h
  have HC3 := Aside0.mk H
  clear H
  go_enter Try.func49, Try.ntmps49
  go_upto_region 1 with (fail)
  go_cut [11] (fun v11 wc => ∃ (kq : Nat) (x11_2 : Bool), v11 = .bool x11_2 ∧ Aside0 (budwoodref01_Signed.j0 kq a0 a1 x11_2 = some r) ∧ Aside0 (kq ≤ k) ∧ Drawn0 w wc)
  case first =>
    have H := HC3.out
    clear HC3
    by_cases c4 : a1 < 1
    · rw [if_pos c4] at H
      have c4b0 : decide (a1 < 1) = true := decide_eq_true c4
      clear c4
      (first | rw [c4b0] | (simp only [i64_w, i32_w]; rw [c4b0]) | skip)
      have H' := Aside0.mk H
      clear H
      go_wp2
      go_meet
      case rel => exact ⟨_, (true), (zE), H', ⟨by first | omega | exact Nat.le_refl _⟩, zD⟩
    · rw [if_neg c4] at H
      have c4b0 : decide (a1 < 1) = false := decide_eq_false c4
      clear c4
      (first | rw [c4b0] | (simp only [i64_w, i32_w]; rw [c4b0]) | skip)
      have H' := Aside0.mk H
      clear H
      go_wp2
      go_meet
      case rel => exact ⟨_, (decide (a1 > 32)), (zE), H', ⟨by first | omega | exact Nat.le_refl _⟩, zD⟩
  case rest =>
    clear HC3
    try clear p2
    try clear c4
    try clear c4b0
    obtain ⟨kq, x11_2, rfl, HA, HJ2, ⟨mc2, rfl⟩⟩ := hcut
    cases kq with
    | zero => exact absurd HA.out (by simp [budwoodref01_Signed.j0])
    | succ kj2 =>
      have H := HA.out
      clear HA
      simp only [budwoodref01_Signed.j0] at H
      by_cases c5 : x11_2 = true
      · subst c5
        replace H := zT H
        obtain rfl := Option.some.inj H
        go_wp2
        go_ret
        exact ⟨zE, zD⟩
      · replace c5 := Bool.eq_false_iff.mpr c5
        subst c5
        replace H := zU H
        replace H := Option.bind_eq_some_iff.mp H
        obtain ⟨t267, A60, H⟩ := H
        replace H : ((budwoodref01_bit.f a0 (wrap64 (a1 - 1))).bind fun t268 => (if t268 = 1 then (if 0 ≤ (IntKind.u64.wrap (a1)) then (some (wrap32 (wrap64 ((wrap64 (t267)) - (shl .i64 1 (IntKind.u64.wrap (a1))))))) else (none)) else (some (wrap32 (wrap64 (t267)))))) = some r := H
        have A6 := Aside0.mk A60
        clear A60
        replace H := Option.bind_eq_some_iff.mp H
        obtain ⟨t268, A70, H⟩ := H
        replace H : (if t268 = 1 then (if 0 ≤ (IntKind.u64.wrap (a1)) then (some (wrap32 (wrap64 ((wrap64 (t267)) - (shl .i64 1 (IntKind.u64.wrap (a1))))))) else (none)) else (some (wrap32 (wrap64 (t267))))) = some r := H
        have A7 := Aside0.mk A70
        clear A70
        by_cases c8 : t268 = 1
        · rw [if_pos c8] at H
          have c8b0 : (t268 == 1) = true := beq_iff_eq.mpr c8
          have c8b1 : (t268 != 1) = false := bne_eq_false_iff_eq.mpr c8
          clear c8
          obtain ⟨ji9, hji9⟩ : ∃ j_ : Int, (IntKind.u64.wrap (a1)) = j_ := ⟨_, rfl⟩
          replace H : (if 0 ≤ (ji9) then (some (wrap32 (wrap64 ((wrap64 (t267)) - (shl .i64 1 (ji9)))))) else (none)) = some r := by first | (rw [hji9] at H; exact H) | (simp only [hji9] at H ⊢; exact H)
          (try rw [hji9] at A6)
          (try rw [hji9] at A7)
          by_cases c10 : 0 ≤ (ji9)
          · rw [if_pos c10] at H
            have c10b0 := eq_true c10
            have c10b1 : decide (0 ≤ (ji9)) = true := decide_eq_true c10
            clear c10
            obtain ⟨ji11, hji11⟩ : ∃ j_ : Int, (shl .i64 1 (ji9)) = j_ := ⟨_, rfl⟩
            replace H : (some (wrap32 (wrap64 ((wrap64 (t267)) - (ji11))))) = some r := by first | (rw [hji11] at H; exact H) | (simp only [hji11] at H ⊢; exact H)
            (try rw [hji11] at A6)
            (try rw [hji11] at A7)
            have hji11_ : (IntKind.i64.wrap (1 * 2 ^ min (ji9).toNat 64)) = ji11 := hji11
            have hji11z : (ji9) ≤ 64 → (IntKind.i64.wrap (1 * 2 ^ (ji9).toNat)) = ji11 := shl_small hji11
            have hji11u : (IntKind.i64.wrap (2 ^ min (ji9).toNat 64)) = ji11 := by have h_ := hji11_; rw [Int.one_mul] at h_; exact h_
            have hji11v : (ji9) ≤ 64 → (IntKind.i64.wrap (2 ^ (ji9).toNat)) = ji11 := fun hle_ => by have h_ := hji11z hle_; rw [Int.one_mul] at h_; exact h_
            have hji11y : (wrap64 (1 * 2 ^ min (ji9).toNat 64)) = ji11 := (i64_w _).symm.trans hji11_
            have hji11x : (ji9) ≤ 64 → (wrap64 (1 * 2 ^ (ji9).toNat)) = ji11 := fun h_ => (i64_w _).symm.trans (hji11z h_)
            obtain rfl := Option.some.inj H
            go_wp2_with (first | ((with_reducible refine gate_callee (f := 47) rfl ?_); refine zG (some 14) Try.func47 #[.int .u32 a0, .int .i64 0, .int .i64 a1] ?_; (with_reducible refine (budwoodref01_Bits.calls kj2 a0 0 a1 t267 _ A6.out).mono ?_); rintro e w' ⟨rfl, ⟨nd, rfl⟩⟩; refine ⟨_, rfl, ?_⟩) | ((with_reducible refine gate_callee (f := 61) rfl ?_); refine zG (some 19) Try.func61 #[.int .u32 a0, .int .i64 (wrap64 (a1 - 1))] ?_; (with_reducible refine (budwoodref01_bit.calls a0 (wrap64 (a1 - 1)) t268 _ A7.out).mono ?_); rintro e w' ⟨rfl, ⟨nd, rfl⟩⟩; refine ⟨_, rfl, ?_⟩))
            go_ret
            exact ⟨by first | rfl | (simp; done) | (simp only [← hji9, ← hji11] <;> (first | rfl | simp)) | (simp [*]; done), zD⟩
          · rw [if_neg c10] at H
            exact absurd H (by simp)
        · rw [if_neg c8] at H
          have c8b0 : (t268 == 1) = false := beq_eq_false_iff_ne.mpr c8
          have c8b1 : (t268 != 1) = true := bne_iff_ne.mpr c8
          obtain rfl := Option.some.inj H
          go_wp2_with (first | ((with_reducible refine gate_callee (f := 47) rfl ?_); refine zG (some 14) Try.func47 #[.int .u32 a0, .int .i64 0, .int .i64 a1] ?_; (with_reducible refine (budwoodref01_Bits.calls kj2 a0 0 a1 t267 _ A6.out).mono ?_); rintro e w' ⟨rfl, ⟨nd, rfl⟩⟩; refine ⟨_, rfl, ?_⟩) | ((with_reducible refine gate_callee (f := 61) rfl ?_); refine zG (some 19) Try.func61 #[.int .u32 a0, .int .i64 (wrap64 (a1 - 1))] ?_; (with_reducible refine (budwoodref01_bit.calls a0 (wrap64 (a1 - 1)) t268 _ A7.out).mono ?_); rintro e w' ⟨rfl, ⟨nd, rfl⟩⟩; refine ⟨_, rfl, ?_⟩))
          go_ret
          exact ⟨zE, zD⟩

end Go.Proofs.Ytllkloneapjgjaa.P
