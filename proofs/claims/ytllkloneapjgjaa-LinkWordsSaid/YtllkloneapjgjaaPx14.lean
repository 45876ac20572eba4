-- WRITTEN BY bud.py (a program of this session's over the kit's print). Not trusted: Lean checks it.
import Derived.Test.YtllkloneapjgjaaPx0
import Derived.Test.YtllkloneapjgjaaPxf
import Derived.Test.YtllkloneapjgjaaPx13
namespace Go.Proofs.Ytllkloneapjgjaa.P
open Go.RowKit Go.Proofs.YtllkloneapjgjaaW.PrintWords Go.Proofs.YtllkloneapjgjaaW.PrintLast Go.Proofs.YtllkloneapjgjaaW.PrintMore
attribute [local go_sem] max2_int min2_int max_two min_two max_three min_three max_four min_four   -- for this text's walks alone
set_option linter.unusedVariables false
set_option linter.unusedSimpArgs false

/-! ### budwoodref01_Fits: function 62 -/
set_option maxHeartbeats 8000000 in
set_option maxRecDepth 100000 in
theorem budwoodref01_Fits.calls (a0 : Int) (a1 : Int) (r : Bool) (w : World) (h : budwoodref01_Fits.f a0 a1 = some r) :
    Calls Try.prog 62 #[.int .i64 a0, .int .i64 a1] w fun e w' => e = .returned (.bool r) ∧ Drawn0 w w' := by
  have H : (if a1 < 1 then (some false) else (if a1 > 32 then (some false) else (if 0 ≤ (IntKind.u64.wrap (wrap64 (a1 - 1))) then (if a0 ≥ (wrap64 (-(shl .i64 1 (IntKind.u64.wrap (wrap64 (a1 - 1)))))) then (some (decide (a0 ≤ (wrap64 ((shl .i64 1 (IntKind.u64.wrap (wrap64 (a1 - 1)))) - 1))))) else (some false)) else (none)))) = some r := h
  clear h
  by_cases c3 : a1 < 1
  · rw [if_pos c3] at H
    have c3b0 : decide (a1 < 1) = true := decide_eq_true c3
    clear c3
    obtain rfl := Option.some.inj H
    go_enter Try.func62, Try.ntmps62
    go_wp2
    go_ret
    exact ⟨zE, zD⟩
  · rw [if_neg c3] at H
    have c3b0 : decide (a1 < 1) = false := decide_eq_false c3
    clear c3
    by_cases c4 : a1 > 32
    · rw [if_pos c4] at H
      have c4b0 : decide (32 < a1) = true := decide_eq_true c4
      clear c4
      obtain rfl := Option.some.inj H
      go_enter Try.func62, Try.ntmps62
      go_wp2
      go_ret
      exact ⟨zE, zD⟩
    · rw [if_neg c4] at H
      have c4b0 : decide (32 < a1) = false := decide_eq_false c4
      clear c4
      obtain ⟨ji5, hji5⟩ : ∃ j_ : Int, (IntKind.u64.wrap (wrap64 (a1 - 1))) = j_ := ⟨_, rfl⟩
      replace H : (if 0 ≤ (ji5) then (if a0 ≥ (wrap64 (-(shl .i64 1 (ji5)))) then (some (decide (a0 ≤ (wrap64 ((shl .i64 1 (ji5)) - 1))))) else (some false)) else (none)) = some r := by first | (rw [hji5] at H; exact H) | (simp only [hji5] at H ⊢; exact H)
      by_cases c6 : 0 ≤ (ji5)
      · rw [if_pos c6] at H
        have c6b0 := eq_true c6
        have c6b1 : decide (0 ≤ (ji5)) = true := decide_eq_true c6
        clear c6
        obtain ⟨ji7, hji7⟩ : ∃ j_ : Int, (shl .i64 1 (ji5)) = j_ := ⟨_, rfl⟩
        replace H : (if a0 ≥ (wrap64 (-(ji7))) then (some (decide (a0 ≤ (wrap64 ((ji7) - 1))))) else (some false)) = some r := by first | (rw [hji7] at H; exact H) | (simp only [hji7] at H ⊢; exact H)
        have hji7_ : (IntKind.i64.wrap (1 * 2 ^ min (ji5).toNat 64)) = ji7 := hji7
        have hji7z : (ji5) ≤ 64 → (IntKind.i64.wrap (1 * 2 ^ (ji5).toNat)) = ji7 := shl_small hji7
        have hji7u : (IntKind.i64.wrap (2 ^ min (ji5).toNat 64)) = ji7 := by have h_ := hji7_; rw [Int.one_mul] at h_; exact h_
        have hji7v : (ji5) ≤ 64 → (IntKind.i64.wrap (2 ^ (ji5).toNat)) = ji7 := fun hle_ => by have h_ := hji7z hle_; rw [Int.one_mul] at h_; exact h_
        have hji7y : (wrap64 (1 * 2 ^ min (ji5).toNat 64)) = ji7 := (i64_w _).symm.trans hji7_
        have hji7x : (ji5) ≤ 64 → (wrap64 (1 * 2 ^ (ji5).toNat)) = ji7 := fun h_ => (i64_w _).symm.trans (hji7z h_)
        by_cases c8 : a0 ≥ (wrap64 (-(ji7)))
        · rw [if_pos c8] at H
          have c8b0 : decide ((wrap64 (-(ji7))) ≤ a0) = true := decide_eq_true c8
          clear c8
          obtain rfl := Option.some.inj H
          go_enter Try.func62, Try.ntmps62
          go_wp2
          go_ret
          exact ⟨by first | rfl | (simp; done) | (simp only [← hji5, ← hji7] <;> (first | rfl | simp)) | (simp [*]; done), zD⟩
        · rw [if_neg c8] at H
          have c8b0 : decide ((wrap64 (-(ji7))) ≤ a0) = false := decide_eq_false c8
          clear c8
          obtain rfl := Option.some.inj H
          go_enter Try.func62, Try.ntmps62
          go_wp2
          go_ret
          exact ⟨by first | rfl | (simp; done) | (simp only [← hji5, ← hji7] <;> (first | rfl | simp)) | (simp [*]; done), zD⟩
      · rw [if_neg c6] at H
        exact absurd H (by simp)

/-! ### budwoodref04_Check: function 50 -/
set_option maxHeartbeats 8000000 in
set_option maxRecDepth 100000 in
theorem budwoodref04_Check.calls (k : Nat) (a0_0 : Int) (a0_1 : Int) (a0_2 : Int) (a0_3 : Int) (a0_4 : Int) (r : Int) (w : World) (h : budwoodref04_Check.f k a0_0 a0_1 a0_2 a0_3 a0_4 = some r) :
    Calls Try.prog 50 #[.agg #[.int .u8 a0_0, .int .u8 a0_1, .int .u8 a0_2, .int .u8 a0_3, .int .i32 a0_4]] w fun e w' => e = .returned (.int .i64 r) ∧ Below w.heap.size w w' := by
  have hu75 := Try.underlying75
  have hu91 := Try.underlying91
  have HB := Aside0.mk (Below.refl w.heap.size w)
  have H : ((budwoodref04_Uses.f k a0_0).bind fun bt243 => (if a0_0 > 21 then (budwoodref04_Check.j0 k true a0_0 a0_1 a0_2 a0_3 a0_4 bt243.1 bt243.2.1 bt243.2.2.1 bt243.2.2.2) else (if a0_1 > 7 then (budwoodref04_Check.j0 k true a0_0 a0_1 a0_2 a0_3 a0_4 bt243.1 bt243.2.1 bt243.2.2.1 bt243.2.2.2) else (if a0_2 > 7 then (budwoodref04_Check.j0 k true a0_0 a0_1 a0_2 a0_3 a0_4 bt243.1 bt243.2.1 bt243.2.2.1 bt243.2.2.2) else (budwoodref04_Check.j0 k (decide (a0_3 > 7)) a0_0 a0_1 a0_2 a0_3 a0_4 bt243.1 bt243.2.1 bt243.2.2.1 bt243.2.2.2))))) = some r := h
  clear h
  replace H := Option.bind_eq_some_iff.mp H
  obtain ⟨⟨t243, t244, t245, t246⟩, A20, H⟩ := H
  replace H : (if a0_0 > 21 then (budwoodref04_Check.j0 k true a0_0 a0_1 a0_2 a0_3 a0_4 t243 t244 t245 t246) else (if a0_1 > 7 then (budwoodref04_Check.j0 k true a0_0 a0_1 a0_2 a0_3 a0_4 t243 t244 t245 t246) else (if a0_2 > 7 then (budwoodref04_Check.j0 k true a0_0 a0_1 a0_2 a0_3 a0_4 t243 t244 t245 t246) else (budwoodref04_Check.j0 k (decide (a0_3 > 7)) a0_0 a0_1 a0_2 a0_3 a0_4 t243 t244 t245 t246)))) = some r := H
  have A2 := Aside0.mk A20
  clear A20
  have HC3 := Aside0.mk H
  clear H
  go_enter Try.func50, Try.ntmps50
  go_upto_region 2 with (first | ((with_reducible refine gate_dst (N := 1) rfl ?_); refine zX (N := 1) (cs := #[.int .u8 a0_0, .int .u8 a0_1, .int .u8 a0_2, .int .u8 a0_3, .int .i32 a0_4]) (t := 75) ?_ ?_; (focus first | (go_simp; done) | (go_simp; rfl)); intro gb242 hg w4 hbox hb; have BK242 := Aside0.mk (hbox); have GW242 := Aside0.mk (zS hg : w.heap.size ≤ gb242); have GE242 := Aside0.mk (zS hg : w.heap.size ≤ gb242); replace HB := Aside0.mk (below_step zB hb); clear hb hbox hg; obtain ⟨hcz5_0, hcz5_1, hcz5_2, hcz5_3, hcz5_4⟩ := zc5 BK242; obtain ⟨hfz5_0, hfz5_1, hfz5_2, hfz5_3, hfz5_4⟩ := zf5 BK242) | ((with_reducible refine gate_callee (f := 48) rfl ?_); refine zG (some 6) Try.func48 #[.int .u8 a0_0] ?_; (with_reducible refine (budwoodref04_Uses.calls k a0_0 t243 t244 t245 t246 _ A2.out).mono ?_); rintro e w6 ⟨rfl, hb⟩; refine ⟨_, rfl, ?_⟩; replace BK242 := Aside0.mk (zL BK242 hb); replace HB := Aside0.mk (below_step zB hb); (try clear hb); (try clear hb2); (try clear hk); (try clear hi)) | ((with_reducible refine gate_dst (N := 3) rfl ?_); refine zX (N := 3) (cs := #[.bool false, .bool false, .bool false, .bool false]) (t := 91) ?_ ?_; (focus first | (go_simp; done) | (go_simp; rfl)); intro gb247 hg w7 hbox hb; have BK247 := Aside0.mk (hbox); have GW247 := Aside0.mk (zS hg : w.heap.size ≤ gb247); have GE247 := Aside0.mk (zS hg : w.heap.size ≤ gb247); have NB242_247 := Aside0.mk (zlt hg BK242 : gb242 ≠ gb247); have NB247_242 := Aside0.mk (zgt hg BK242 : gb247 ≠ gb242); replace BK242 := Aside0.mk (zL BK242 hb); replace HB := Aside0.mk (below_step zB hb); clear hb hbox hg; have hnb8 := NB247_242.out; have hnc8 := NB242_247.out; obtain ⟨hcz9_0, hcz9_1, hcz9_2, hcz9_3⟩ := zc4 BK247; obtain ⟨hfz9_0, hfz9_1, hfz9_2, hfz9_3⟩ := zf4 BK247))
  (try simp only [Act.put, List.setIfInBounds_toArray, List.set_cons_zero, List.set_cons_succ])
  go_cut [7] (fun v7 wc => ∃ (kq : Nat) (x7_2 : Bool), v7 = .bool x7_2 ∧ Aside0 (budwoodref04_Check.j0 kq x7_2 a0_0 a0_1 a0_2 a0_3 a0_4 t243 t244 t245 t246 = some r) ∧ Aside0 (kq ≤ k) ∧ Aside0 (wc.heap[gb242]? = some (.cells #[.int .u8 a0_0, .int .u8 a0_1, .int .u8 a0_2, .int .u8 a0_3, .int .i32 a0_4] 75 (0, 0))) ∧ Aside0 (wc.heap[gb247]? = some (.cells #[.bool t243, .bool t244, .bool t245, .bool t246] 91 (0, 0))) ∧ Aside0 (Below w.heap.size w wc))
  case first =>
    have H := HC3.out
    clear HC3
    by_cases c10 : a0_0 > 21
    · rw [if_pos c10] at H
      have c10b0 : decide (21 < a0_0) = true := decide_eq_true c10
      clear c10
      (first | rw [c10b0] | (simp only [i64_w, i32_w]; rw [c10b0]) | skip)
      have H' := Aside0.mk H
      clear H
      have hnb11 := NB242_247.out
      have hnc11 := NB247_242.out
      obtain ⟨hcz12_0, hcz12_1, hcz12_2, hcz12_3, hcz12_4⟩ := zc5 BK242
      obtain ⟨hfz12_0, hfz12_1, hfz12_2, hfz12_3, hfz12_4⟩ := zf5 BK242
      go_wp2
      go_meet
      case rel => exact ⟨_, (true), (zE), H', ⟨by first | omega | exact Nat.le_refl _⟩, ⟨zV⟩, ⟨zV⟩, ⟨zB⟩⟩
    · rw [if_neg c10] at H
      have c10b0 : decide (21 < a0_0) = false := decide_eq_false c10
      clear c10
      (first | rw [c10b0] | (simp only [i64_w, i32_w]; rw [c10b0]) | skip)
      by_cases c13 : a0_1 > 7
      · rw [if_pos c13] at H
        have c13b0 : decide (7 < a0_1) = true := decide_eq_true c13
        clear c13
        have H' := Aside0.mk H
        clear H
        have hnb14 := NB242_247.out
        have hnc14 := NB247_242.out
        obtain ⟨hcz15_0, hcz15_1, hcz15_2, hcz15_3, hcz15_4⟩ := zc5 BK242
        obtain ⟨hfz15_0, hfz15_1, hfz15_2, hfz15_3, hfz15_4⟩ := zf5 BK242
        go_wp2
        go_meet
        case rel => exact ⟨_, (true), (zE), H', ⟨by first | omega | exact Nat.le_refl _⟩, ⟨zV⟩, ⟨zV⟩, ⟨zB⟩⟩
      · rw [if_neg c13] at H
        have c13b0 : decide (7 < a0_1) = false := decide_eq_false c13
        clear c13
        by_cases c16 : a0_2 > 7
        · rw [if_pos c16] at H
          have c16b0 : decide (7 < a0_2) = true := decide_eq_true c16
          clear c16
          have H' := Aside0.mk H
          clear H
          have hnb17 := NB242_247.out
          have hnc17 := NB247_242.out
          obtain ⟨hcz18_0, hcz18_1, hcz18_2, hcz18_3, hcz18_4⟩ := zc5 BK242
          obtain ⟨hfz18_0, hfz18_1, hfz18_2, hfz18_3, hfz18_4⟩ := zf5 BK242
          go_wp2
          go_meet
          case rel => exact ⟨_, (true), (zE), H', ⟨by first | omega | exact Nat.le_refl _⟩, ⟨zV⟩, ⟨zV⟩, ⟨zB⟩⟩
        · rw [if_neg c16] at H
          have c16b0 : decide (7 < a0_2) = false := decide_eq_false c16
          clear c16
          have H' := Aside0.mk H
          clear H
          have hnb19 := NB242_247.out
          have hnc19 := NB247_242.out
          obtain ⟨hcz20_0, hcz20_1, hcz20_2, hcz20_3, hcz20_4⟩ := zc5 BK242
          obtain ⟨hfz20_0, hfz20_1, hfz20_2, hfz20_3, hfz20_4⟩ := zf5 BK242
          go_wp2
          go_meet
          case rel => exact ⟨_, (decide (a0_3 > 7)), (zE), H', ⟨by first | omega | exact Nat.le_refl _⟩, ⟨zV⟩, ⟨zV⟩, ⟨zB⟩⟩
  case rest =>
    clear HC3
    try clear c1
    try clear p2
    try clear c4
    try clear c5
    try clear c8
    try clear c10
    try clear c10b0
    try clear c11
    try clear c13
    try clear c13b0
    try clear c14
    try clear c16
    try clear c16b0
    try clear c17
    try clear c19
    try clear hcz12_0 hcz12_1 hcz12_2 hcz12_3 hcz12_4
    try clear hcz15_0 hcz15_1 hcz15_2 hcz15_3 hcz15_4
    try clear hcz18_0 hcz18_1 hcz18_2 hcz18_3 hcz18_4
    try clear hcz20_0 hcz20_1 hcz20_2 hcz20_3 hcz20_4
    try clear hcz5_0 hcz5_1 hcz5_2 hcz5_3 hcz5_4
    try clear hcz9_0 hcz9_1 hcz9_2 hcz9_3
    try clear hfz12_0 hfz12_1 hfz12_2 hfz12_3 hfz12_4
    try clear hfz15_0 hfz15_1 hfz15_2 hfz15_3 hfz15_4
    try clear hfz18_0 hfz18_1 hfz18_2 hfz18_3 hfz18_4
    try clear hfz20_0 hfz20_1 hfz20_2 hfz20_3 hfz20_4
    try clear hfz5_0 hfz5_1 hfz5_2 hfz5_3 hfz5_4
    try clear hfz9_0 hfz9_1 hfz9_2 hfz9_3
    obtain ⟨kq, x7_2, rfl, HA, HJ2, BK242, BK247, HB⟩ := hcut
    cases kq with
    | zero => exact absurd HA.out (by simp [budwoodref04_Check.j0])
    | succ kj2 =>
      have H := HA.out
      clear HA
      simp only [budwoodref04_Check.j0] at H
      by_cases c21 : x7_2 = true
      · subst c21
        replace H := zT H
        obtain rfl := Option.some.inj H
        go_wp2
        go_ret
        exact ⟨zF, zB⟩
      · replace c21 := Bool.eq_false_iff.mpr c21
        subst c21
        replace H := zU H
        have HC22 := Aside0.mk H
        clear H
        go_upto_region 4 with (fail)
        go_cut [26] (fun v26 wc => ∃ (kq : Nat) (x26_21 : Bool), v26 = .bool x26_21 ∧ Aside0 (budwoodref04_Check.j1 kq x26_21 a0_0 a0_1 a0_2 a0_3 a0_4 = some r) ∧ Aside0 (kq ≤ kj2) ∧ Aside0 (wc.heap[gb242]? = some (.cells #[.int .u8 a0_0, .int .u8 a0_1, .int .u8 a0_2, .int .u8 a0_3, .int .i32 a0_4] 75 (0, 0))) ∧ Aside0 (wc.heap[gb247]? = some (.cells #[.bool t243, .bool t244, .bool t245, .bool t246] 91 (0, 0))) ∧ Aside0 (Below w.heap.size w wc))
        case first =>
          have H := HC22.out
          clear HC22
          by_cases c23 : t243 = true
          · subst c23
            replace H := zT H
            by_cases c24 : t244 = true
            · subst c24
              replace H := zT H
              by_cases c25 : t245 = true
              · subst c25
                replace H := zT H
                by_cases c26 : t246 = true
                · subst c26
                  replace H := zT H
                  have H' := Aside0.mk H
                  clear H
                  have hnb27 := NB247_242.out
                  have hnc27 := NB242_247.out
                  obtain ⟨hcz28_0, hcz28_1, hcz28_2, hcz28_3⟩ := zc4 BK247
                  obtain ⟨hfz28_0, hfz28_1, hfz28_2, hfz28_3⟩ := zf4 BK247
                  go_wp2
                  go_meet
                  case rel => exact ⟨_, (false), (zE), H', ⟨by have := HJ2.out; first | omega | exact Nat.le_refl _⟩, ⟨zK⟩, ⟨zK⟩, ⟨zB⟩⟩
                · replace c26 := Bool.eq_false_iff.mpr c26
                  subst c26
                  replace H := zU H
                  have H' := Aside0.mk H
                  clear H
                  have hnb29 := NB247_242.out
                  have hnc29 := NB242_247.out
                  obtain ⟨hcz30_0, hcz30_1, hcz30_2, hcz30_3⟩ := zc4 BK247
                  obtain ⟨hfz30_0, hfz30_1, hfz30_2, hfz30_3⟩ := zf4 BK247
                  obtain ⟨hcz31_0, hcz31_1, hcz31_2, hcz31_3, hcz31_4⟩ := zc5 BK242
                  obtain ⟨hfz31_0, hfz31_1, hfz31_2, hfz31_3, hfz31_4⟩ := zf5 BK242
                  go_wp2
                  go_meet
                  case rel => exact ⟨_, ((a0_4 != 0)), (zE), H', ⟨by have := HJ2.out; first | omega | exact Nat.le_refl _⟩, ⟨zK⟩, ⟨zK⟩, ⟨zB⟩⟩
              · replace c25 := Bool.eq_false_iff.mpr c25
                subst c25
                replace H := zU H
                by_cases c32 : a0_3 = 0
                · rw [if_pos c32] at H
                  have c32b0 : (a0_3 == 0) = true := beq_iff_eq.mpr c32
                  have c32b1 : (a0_3 != 0) = false := bne_eq_false_iff_eq.mpr c32
                  clear c32
                  (first | rw [c32b0] | (simp only [i64_w, i32_w]; rw [c32b0]) | skip)
                  by_cases c33 : t246 = true
                  · subst c33
                    replace H := zT H
                    have H' := Aside0.mk H
                    clear H
                    have hnb34 := NB247_242.out
                    have hnc34 := NB242_247.out
                    obtain ⟨hcz35_0, hcz35_1, hcz35_2, hcz35_3⟩ := zc4 BK247
                    obtain ⟨hfz35_0, hfz35_1, hfz35_2, hfz35_3⟩ := zf4 BK247
                    obtain ⟨hcz36_0, hcz36_1, hcz36_2, hcz36_3, hcz36_4⟩ := zc5 BK242
                    obtain ⟨hfz36_0, hfz36_1, hfz36_2, hfz36_3, hfz36_4⟩ := zf5 BK242
                    go_wp2
                    go_meet
                    case rel => exact ⟨_, (false), (zE), H', ⟨by have := HJ2.out; first | omega | exact Nat.le_refl _⟩, ⟨zK⟩, ⟨zK⟩, ⟨zB⟩⟩
                  · replace c33 := Bool.eq_false_iff.mpr c33
                    subst c33
                    replace H := zU H
                    have H' := Aside0.mk H
                    clear H
                    have hnb37 := NB247_242.out
                    have hnc37 := NB242_247.out
                    obtain ⟨hcz38_0, hcz38_1, hcz38_2, hcz38_3⟩ := zc4 BK247
                    obtain ⟨hfz38_0, hfz38_1, hfz38_2, hfz38_3⟩ := zf4 BK247
                    obtain ⟨hcz39_0, hcz39_1, hcz39_2, hcz39_3, hcz39_4⟩ := zc5 BK242
                    obtain ⟨hfz39_0, hfz39_1, hfz39_2, hfz39_3, hfz39_4⟩ := zf5 BK242
                    go_wp2
                    go_meet
                    case rel => exact ⟨_, ((a0_4 != 0)), (zE), H', ⟨by have := HJ2.out; first | omega | exact Nat.le_refl _⟩, ⟨zK⟩, ⟨zK⟩, ⟨zB⟩⟩
                · rw [if_neg c32] at H
                  have c32b0 : (a0_3 == 0) = false := beq_eq_false_iff_ne.mpr c32
                  have c32b1 : (a0_3 != 0) = true := bne_iff_ne.mpr c32
                  (first | rw [c32b0] | (simp only [i64_w, i32_w]; rw [c32b0]) | skip)
                  have H' := Aside0.mk H
                  clear H
                  have hnb40 := NB247_242.out
                  have hnc40 := NB242_247.out
                  obtain ⟨hcz41_0, hcz41_1, hcz41_2, hcz41_3⟩ := zc4 BK247
                  obtain ⟨hfz41_0, hfz41_1, hfz41_2, hfz41_3⟩ := zf4 BK247
                  obtain ⟨hcz42_0, hcz42_1, hcz42_2, hcz42_3, hcz42_4⟩ := zc5 BK242
                  obtain ⟨hfz42_0, hfz42_1, hfz42_2, hfz42_3, hfz42_4⟩ := zf5 BK242
                  go_wp2
                  go_meet
                  case rel => exact ⟨_, (true), (zE), H', ⟨by have := HJ2.out; first | omega | exact Nat.le_refl _⟩, ⟨zK⟩, ⟨zK⟩, ⟨zB⟩⟩
            · replace c24 := Bool.eq_false_iff.mpr c24
              subst c24
              replace H := zU H
              by_cases c43 : a0_2 = 0
              · rw [if_pos c43] at H
                have c43b0 : (a0_2 == 0) = true := beq_iff_eq.mpr c43
                have c43b1 : (a0_2 != 0) = false := bne_eq_false_iff_eq.mpr c43
                clear c43
                by_cases c44 : t245 = true
                · subst c44
                  replace H := zT H
                  by_cases c45 : t246 = true
                  · subst c45
                    replace H := zT H
                    have H' := Aside0.mk H
                    clear H
                    have hnb46 := NB247_242.out
                    have hnc46 := NB242_247.out
                    obtain ⟨hcz47_0, hcz47_1, hcz47_2, hcz47_3⟩ := zc4 BK247
                    obtain ⟨hfz47_0, hfz47_1, hfz47_2, hfz47_3⟩ := zf4 BK247
                    obtain ⟨hcz48_0, hcz48_1, hcz48_2, hcz48_3, hcz48_4⟩ := zc5 BK242
                    obtain ⟨hfz48_0, hfz48_1, hfz48_2, hfz48_3, hfz48_4⟩ := zf5 BK242
                    go_wp2
                    go_meet
                    case rel => exact ⟨_, (false), (zE), H', ⟨by have := HJ2.out; first | omega | exact Nat.le_refl _⟩, ⟨zK⟩, ⟨zK⟩, ⟨zB⟩⟩
                  · replace c45 := Bool.eq_false_iff.mpr c45
                    subst c45
                    replace H := zU H
                    have H' := Aside0.mk H
                    clear H
                    have hnb49 := NB247_242.out
                    have hnc49 := NB242_247.out
                    obtain ⟨hcz50_0, hcz50_1, hcz50_2, hcz50_3⟩ := zc4 BK247
                    obtain ⟨hfz50_0, hfz50_1, hfz50_2, hfz50_3⟩ := zf4 BK247
                    obtain ⟨hcz51_0, hcz51_1, hcz51_2, hcz51_3, hcz51_4⟩ := zc5 BK242
                    obtain ⟨hfz51_0, hfz51_1, hfz51_2, hfz51_3, hfz51_4⟩ := zf5 BK242
                    go_wp2
                    go_meet
                    case rel => exact ⟨_, ((a0_4 != 0)), (zE), H', ⟨by have := HJ2.out; first | omega | exact Nat.le_refl _⟩, ⟨zK⟩, ⟨zK⟩, ⟨zB⟩⟩
                · replace c44 := Bool.eq_false_iff.mpr c44
                  subst c44
                  replace H := zU H
                  by_cases c52 : a0_3 = 0
                  · rw [if_pos c52] at H
                    have c52b0 : (a0_3 == 0) = true := beq_iff_eq.mpr c52
                    have c52b1 : (a0_3 != 0) = false := bne_eq_false_iff_eq.mpr c52
                    clear c52
                    by_cases c53 : t246 = true
                    · subst c53
                      replace H := zT H
                      have H' := Aside0.mk H
                      clear H
                      have hnb54 := NB247_242.out
                      have hnc54 := NB242_247.out
                      obtain ⟨hcz55_0, hcz55_1, hcz55_2, hcz55_3⟩ := zc4 BK247
                      obtain ⟨hfz55_0, hfz55_1, hfz55_2, hfz55_3⟩ := zf4 BK247
                      obtain ⟨hcz56_0, hcz56_1, hcz56_2, hcz56_3, hcz56_4⟩ := zc5 BK242
                      obtain ⟨hfz56_0, hfz56_1, hfz56_2, hfz56_3, hfz56_4⟩ := zf5 BK242
                      go_wp2
                      go_meet
                      case rel => exact ⟨_, (false), (zE), H', ⟨by have := HJ2.out; first | omega | exact Nat.le_refl _⟩, ⟨zK⟩, ⟨zK⟩, ⟨zB⟩⟩
                    · replace c53 := Bool.eq_false_iff.mpr c53
                      subst c53
                      replace H := zU H
                      have H' := Aside0.mk H
                      clear H
                      have hnb57 := NB247_242.out
                      have hnc57 := NB242_247.out
                      obtain ⟨hcz58_0, hcz58_1, hcz58_2, hcz58_3⟩ := zc4 BK247
                      obtain ⟨hfz58_0, hfz58_1, hfz58_2, hfz58_3⟩ := zf4 BK247
                      obtain ⟨hcz59_0, hcz59_1, hcz59_2, hcz59_3, hcz59_4⟩ := zc5 BK242
                      obtain ⟨hfz59_0, hfz59_1, hfz59_2, hfz59_3, hfz59_4⟩ := zf5 BK242
                      go_wp2
                      go_meet
                      case rel => exact ⟨_, ((a0_4 != 0)), (zE), H', ⟨by have := HJ2.out; first | omega | exact Nat.le_refl _⟩, ⟨zK⟩, ⟨zK⟩, ⟨zB⟩⟩
                  · rw [if_neg c52] at H
                    have c52b0 : (a0_3 == 0) = false := beq_eq_false_iff_ne.mpr c52
                    have c52b1 : (a0_3 != 0) = true := bne_iff_ne.mpr c52
                    have H' := Aside0.mk H
                    clear H
                    have hnb60 := NB247_242.out
                    have hnc60 := NB242_247.out
                    obtain ⟨hcz61_0, hcz61_1, hcz61_2, hcz61_3⟩ := zc4 BK247
                    obtain ⟨hfz61_0, hfz61_1, hfz61_2, hfz61_3⟩ := zf4 BK247
                    obtain ⟨hcz62_0, hcz62_1, hcz62_2, hcz62_3, hcz62_4⟩ := zc5 BK242
                    obtain ⟨hfz62_0, hfz62_1, hfz62_2, hfz62_3, hfz62_4⟩ := zf5 BK242
                    go_wp2
                    go_meet
                    case rel => exact ⟨_, (true), (zE), H', ⟨by have := HJ2.out; first | omega | exact Nat.le_refl _⟩, ⟨zK⟩, ⟨zK⟩, ⟨zB⟩⟩
              · rw [if_neg c43] at H
                have c43b0 : (a0_2 == 0) = false := beq_eq_false_iff_ne.mpr c43
                have c43b1 : (a0_2 != 0) = true := bne_iff_ne.mpr c43
                have H' := Aside0.mk H
                clear H
                have hnb63 := NB247_242.out
                have hnc63 := NB242_247.out
                obtain ⟨hcz64_0, hcz64_1, hcz64_2, hcz64_3⟩ := zc4 BK247
                obtain ⟨hfz64_0, hfz64_1, hfz64_2, hfz64_3⟩ := zf4 BK247
                obtain ⟨hcz65_0, hcz65_1, hcz65_2, hcz65_3, hcz65_4⟩ := zc5 BK242
                obtain ⟨hfz65_0, hfz65_1, hfz65_2, hfz65_3, hfz65_4⟩ := zf5 BK242
                go_wp2
                go_meet
                case rel => exact ⟨_, (true), (zE), H', ⟨by have := HJ2.out; first | omega | exact Nat.le_refl _⟩, ⟨zK⟩, ⟨zK⟩, ⟨zB⟩⟩
          · replace c23 := Bool.eq_false_iff.mpr c23
            subst c23
            replace H := zU H
            by_cases c66 : a0_1 = 0
            · rw [if_pos c66] at H
              have c66b0 : (a0_1 == 0) = true := beq_iff_eq.mpr c66
              have c66b1 : (a0_1 != 0) = false := bne_eq_false_iff_eq.mpr c66
              clear c66
              by_cases c67 : t244 = true
              · subst c67
                replace H := zT H
                by_cases c68 : t245 = true
                · subst c68
                  replace H := zT H
                  by_cases c69 : t246 = true
                  · subst c69
                    replace H := zT H
                    have H' := Aside0.mk H
                    clear H
                    have hnb70 := NB247_242.out
                    have hnc70 := NB242_247.out
                    obtain ⟨hcz71_0, hcz71_1, hcz71_2, hcz71_3⟩ := zc4 BK247
                    obtain ⟨hfz71_0, hfz71_1, hfz71_2, hfz71_3⟩ := zf4 BK247
                    obtain ⟨hcz72_0, hcz72_1, hcz72_2, hcz72_3, hcz72_4⟩ := zc5 BK242
                    obtain ⟨hfz72_0, hfz72_1, hfz72_2, hfz72_3, hfz72_4⟩ := zf5 BK242
                    go_wp2
                    go_meet
                    case rel => exact ⟨_, (false), (zE), H', ⟨by have := HJ2.out; first | omega | exact Nat.le_refl _⟩, ⟨zK⟩, ⟨zK⟩, ⟨zB⟩⟩
                  · replace c69 := Bool.eq_false_iff.mpr c69
                    subst c69
                    replace H := zU H
                    have H' := Aside0.mk H
                    clear H
                    have hnb73 := NB247_242.out
                    have hnc73 := NB242_247.out
                    obtain ⟨hcz74_0, hcz74_1, hcz74_2, hcz74_3⟩ := zc4 BK247
                    obtain ⟨hfz74_0, hfz74_1, hfz74_2, hfz74_3⟩ := zf4 BK247
                    obtain ⟨hcz75_0, hcz75_1, hcz75_2, hcz75_3, hcz75_4⟩ := zc5 BK242
                    obtain ⟨hfz75_0, hfz75_1, hfz75_2, hfz75_3, hfz75_4⟩ := zf5 BK242
                    go_wp2
                    go_meet
                    case rel => exact ⟨_, ((a0_4 != 0)), (zE), H', ⟨by have := HJ2.out; first | omega | exact Nat.le_refl _⟩, ⟨zK⟩, ⟨zK⟩, ⟨zB⟩⟩
                · replace c68 := Bool.eq_false_iff.mpr c68
                  subst c68
                  replace H := zU H
                  by_cases c76 : a0_3 = 0
                  · rw [if_pos c76] at H
                    have c76b0 : (a0_3 == 0) = true := beq_iff_eq.mpr c76
                    have c76b1 : (a0_3 != 0) = false := bne_eq_false_iff_eq.mpr c76
                    clear c76
                    by_cases c77 : t246 = true
                    · subst c77
                      replace H := zT H
                      have H' := Aside0.mk H
                      clear H
                      have hnb78 := NB247_242.out
                      have hnc78 := NB242_247.out
                      obtain ⟨hcz79_0, hcz79_1, hcz79_2, hcz79_3⟩ := zc4 BK247
                      obtain ⟨hfz79_0, hfz79_1, hfz79_2, hfz79_3⟩ := zf4 BK247
                      obtain ⟨hcz80_0, hcz80_1, hcz80_2, hcz80_3, hcz80_4⟩ := zc5 BK242
                      obtain ⟨hfz80_0, hfz80_1, hfz80_2, hfz80_3, hfz80_4⟩ := zf5 BK242
                      go_wp2
                      go_meet
                      case rel => exact ⟨_, (false), (zE), H', ⟨by have := HJ2.out; first | omega | exact Nat.le_refl _⟩, ⟨zK⟩, ⟨zK⟩, ⟨zB⟩⟩
                    · replace c77 := Bool.eq_false_iff.mpr c77
                      subst c77
                      replace H := zU H
                      have H' := Aside0.mk H
                      clear H
                      have hnb81 := NB247_242.out
                      have hnc81 := NB242_247.out
                      obtain ⟨hcz82_0, hcz82_1, hcz82_2, hcz82_3⟩ := zc4 BK247
                      obtain ⟨hfz82_0, hfz82_1, hfz82_2, hfz82_3⟩ := zf4 BK247
                      obtain ⟨hcz83_0, hcz83_1, hcz83_2, hcz83_3, hcz83_4⟩ := zc5 BK242
                      obtain ⟨hfz83_0, hfz83_1, hfz83_2, hfz83_3, hfz83_4⟩ := zf5 BK242
                      go_wp2
                      go_meet
                      case rel => exact ⟨_, ((a0_4 != 0)), (zE), H', ⟨by have := HJ2.out; first | omega | exact Nat.le_refl _⟩, ⟨zK⟩, ⟨zK⟩, ⟨zB⟩⟩
                  · rw [if_neg c76] at H
                    have c76b0 : (a0_3 == 0) = false := beq_eq_false_iff_ne.mpr c76
                    have c76b1 : (a0_3 != 0) = true := bne_iff_ne.mpr c76
                    have H' := Aside0.mk H
                    clear H
                    have hnb84 := NB247_242.out
                    have hnc84 := NB242_247.out
                    obtain ⟨hcz85_0, hcz85_1, hcz85_2, hcz85_3⟩ := zc4 BK247
                    obtain ⟨hfz85_0, hfz85_1, hfz85_2, hfz85_3⟩ := zf4 BK247
                    obtain ⟨hcz86_0, hcz86_1, hcz86_2, hcz86_3, hcz86_4⟩ := zc5 BK242
                    obtain ⟨hfz86_0, hfz86_1, hfz86_2, hfz86_3, hfz86_4⟩ := zf5 BK242
                    go_wp2
                    go_meet
                    case rel => exact ⟨_, (true), (zE), H', ⟨by have := HJ2.out; first | omega | exact Nat.le_refl _⟩, ⟨zK⟩, ⟨zK⟩, ⟨zB⟩⟩
              · replace c67 := Bool.eq_false_iff.mpr c67
                subst c67
                replace H := zU H
                by_cases c87 : a0_2 = 0
                · rw [if_pos c87] at H
                  have c87b0 : (a0_2 == 0) = true := beq_iff_eq.mpr c87
                  have c87b1 : (a0_2 != 0) = false := bne_eq_false_iff_eq.mpr c87
                  clear c87
                  by_cases c88 : t245 = true
                  · subst c88
                    replace H := zT H
                    by_cases c89 : t246 = true
                    · subst c89
                      replace H := zT H
                      have H' := Aside0.mk H
                      clear H
                      have hnb90 := NB247_242.out
                      have hnc90 := NB242_247.out
                      obtain ⟨hcz91_0, hcz91_1, hcz91_2, hcz91_3⟩ := zc4 BK247
                      obtain ⟨hfz91_0, hfz91_1, hfz91_2, hfz91_3⟩ := zf4 BK247
                      obtain ⟨hcz92_0, hcz92_1, hcz92_2, hcz92_3, hcz92_4⟩ := zc5 BK242
                      obtain ⟨hfz92_0, hfz92_1, hfz92_2, hfz92_3, hfz92_4⟩ := zf5 BK242
                      go_wp2
                      go_meet
                      case rel => exact ⟨_, (false), (zE), H', ⟨by have := HJ2.out; first | omega | exact Nat.le_refl _⟩, ⟨zK⟩, ⟨zK⟩, ⟨zB⟩⟩
                    · replace c89 := Bool.eq_false_iff.mpr c89
                      subst c89
                      replace H := zU H
                      have H' := Aside0.mk H
                      clear H
                      have hnb93 := NB247_242.out
                      have hnc93 := NB242_247.out
                      obtain ⟨hcz94_0, hcz94_1, hcz94_2, hcz94_3⟩ := zc4 BK247
                      obtain ⟨hfz94_0, hfz94_1, hfz94_2, hfz94_3⟩ := zf4 BK247
                      obtain ⟨hcz95_0, hcz95_1, hcz95_2, hcz95_3, hcz95_4⟩ := zc5 BK242
                      obtain ⟨hfz95_0, hfz95_1, hfz95_2, hfz95_3, hfz95_4⟩ := zf5 BK242
                      go_wp2
                      go_meet
                      case rel => exact ⟨_, ((a0_4 != 0)), (zE), H', ⟨by have := HJ2.out; first | omega | exact Nat.le_refl _⟩, ⟨zK⟩, ⟨zK⟩, ⟨zB⟩⟩
                  · replace c88 := Bool.eq_false_iff.mpr c88
                    subst c88
                    replace H := zU H
                    by_cases c96 : a0_3 = 0
                    · rw [if_pos c96] at H
                      have c96b0 : (a0_3 == 0) = true := beq_iff_eq.mpr c96
                      have c96b1 : (a0_3 != 0) = false := bne_eq_false_iff_eq.mpr c96
                      clear c96
                      by_cases c97 : t246 = true
                      · subst c97
                        replace H := zT H
                        have H' := Aside0.mk H
                        clear H
                        have hnb98 := NB247_242.out
                        have hnc98 := NB242_247.out
                        obtain ⟨hcz99_0, hcz99_1, hcz99_2, hcz99_3⟩ := zc4 BK247
                        obtain ⟨hfz99_0, hfz99_1, hfz99_2, hfz99_3⟩ := zf4 BK247
                        obtain ⟨hcz100_0, hcz100_1, hcz100_2, hcz100_3, hcz100_4⟩ := zc5 BK242
                        obtain ⟨hfz100_0, hfz100_1, hfz100_2, hfz100_3, hfz100_4⟩ := zf5 BK242
                        go_wp2
                        go_meet
                        case rel => exact ⟨_, (false), (zE), H', ⟨by have := HJ2.out; first | omega | exact Nat.le_refl _⟩, ⟨zK⟩, ⟨zK⟩, ⟨zB⟩⟩
                      · replace c97 := Bool.eq_false_iff.mpr c97
                        subst c97
                        replace H := zU H
                        have H' := Aside0.mk H
                        clear H
                        have hnb101 := NB247_242.out
                        have hnc101 := NB242_247.out
                        obtain ⟨hcz102_0, hcz102_1, hcz102_2, hcz102_3⟩ := zc4 BK247
                        obtain ⟨hfz102_0, hfz102_1, hfz102_2, hfz102_3⟩ := zf4 BK247
                        obtain ⟨hcz103_0, hcz103_1, hcz103_2, hcz103_3, hcz103_4⟩ := zc5 BK242
                        obtain ⟨hfz103_0, hfz103_1, hfz103_2, hfz103_3, hfz103_4⟩ := zf5 BK242
                        go_wp2
                        go_meet
                        case rel => exact ⟨_, ((a0_4 != 0)), (zE), H', ⟨by have := HJ2.out; first | omega | exact Nat.le_refl _⟩, ⟨zK⟩, ⟨zK⟩, ⟨zB⟩⟩
                    · rw [if_neg c96] at H
                      have c96b0 : (a0_3 == 0) = false := beq_eq_false_iff_ne.mpr c96
                      have c96b1 : (a0_3 != 0) = true := bne_iff_ne.mpr c96
                      have H' := Aside0.mk H
                      clear H
                      have hnb104 := NB247_242.out
                      have hnc104 := NB242_247.out
                      obtain ⟨hcz105_0, hcz105_1, hcz105_2, hcz105_3⟩ := zc4 BK247
                      obtain ⟨hfz105_0, hfz105_1, hfz105_2, hfz105_3⟩ := zf4 BK247
                      obtain ⟨hcz106_0, hcz106_1, hcz106_2, hcz106_3, hcz106_4⟩ := zc5 BK242
                      obtain ⟨hfz106_0, hfz106_1, hfz106_2, hfz106_3, hfz106_4⟩ := zf5 BK242
                      go_wp2
                      go_meet
                      case rel => exact ⟨_, (true), (zE), H', ⟨by have := HJ2.out; first | omega | exact Nat.le_refl _⟩, ⟨zK⟩, ⟨zK⟩, ⟨zB⟩⟩
                · rw [if_neg c87] at H
                  have c87b0 : (a0_2 == 0) = false := beq_eq_false_iff_ne.mpr c87
                  have c87b1 : (a0_2 != 0) = true := bne_iff_ne.mpr c87
                  have H' := Aside0.mk H
                  clear H
                  have hnb107 := NB247_242.out
                  have hnc107 := NB242_247.out
                  obtain ⟨hcz108_0, hcz108_1, hcz108_2, hcz108_3⟩ := zc4 BK247
                  obtain ⟨hfz108_0, hfz108_1, hfz108_2, hfz108_3⟩ := zf4 BK247
                  obtain ⟨hcz109_0, hcz109_1, hcz109_2, hcz109_3, hcz109_4⟩ := zc5 BK242
                  obtain ⟨hfz109_0, hfz109_1, hfz109_2, hfz109_3, hfz109_4⟩ := zf5 BK242
                  go_wp2
                  go_meet
                  case rel => exact ⟨_, (true), (zE), H', ⟨by have := HJ2.out; first | omega | exact Nat.le_refl _⟩, ⟨zK⟩, ⟨zK⟩, ⟨zB⟩⟩
            · rw [if_neg c66] at H
              have c66b0 : (a0_1 == 0) = false := beq_eq_false_iff_ne.mpr c66
              have c66b1 : (a0_1 != 0) = true := bne_iff_ne.mpr c66
              have H' := Aside0.mk H
              clear H
              have hnb110 := NB247_242.out
              have hnc110 := NB242_247.out
              obtain ⟨hcz111_0, hcz111_1, hcz111_2, hcz111_3⟩ := zc4 BK247
              obtain ⟨hfz111_0, hfz111_1, hfz111_2, hfz111_3⟩ := zf4 BK247
              obtain ⟨hcz112_0, hcz112_1, hcz112_2, hcz112_3, hcz112_4⟩ := zc5 BK242
              obtain ⟨hfz112_0, hfz112_1, hfz112_2, hfz112_3, hfz112_4⟩ := zf5 BK242
              go_wp2
              go_meet
              case rel => exact ⟨_, (true), (zE), H', ⟨by have := HJ2.out; first | omega | exact Nat.le_refl _⟩, ⟨zK⟩, ⟨zK⟩, ⟨zB⟩⟩
        case rest =>
          clear HC22
          try clear c1
          try clear c2
          try clear p2
          try clear c4
          try clear c5
          try clear c6
          try clear c7
          try clear c8
          try clear c9
          try clear c10
          try clear c11
          try clear c23
          try clear c43
          try clear c43b0
          try clear c43b1
          try clear c44
          try clear c45
          try clear c49
          try clear c52
          try clear c52b0
          try clear c52b1
          try clear c53
          try clear c54
          try clear c57
          try clear c60
          try clear c63
          try clear c66
          try clear c66b0
          try clear c66b1
          try clear c67
          try clear c68
          try clear c69
          try clear c70
          try clear c73
          try clear c76
          try clear c76b0
          try clear c76b1
          try clear c77
          try clear c78
          try clear c81
          try clear c84
          try clear c87
          try clear c87b0
          try clear c87b1
          try clear c88
          try clear c89
          try clear c90
          try clear c93
          try clear c96
          try clear c96b0
          try clear c96b1
          try clear c97
          try clear c98
          try clear c101
          try clear c104
          try clear c107
          try clear c110
          try clear hcz100_0 hcz100_1 hcz100_2 hcz100_3 hcz100_4
          try clear hcz102_0 hcz102_1 hcz102_2 hcz102_3
          try clear hcz103_0 hcz103_1 hcz103_2 hcz103_3 hcz103_4
          try clear hcz105_0 hcz105_1 hcz105_2 hcz105_3
          try clear hcz106_0 hcz106_1 hcz106_2 hcz106_3 hcz106_4
          try clear hcz108_0 hcz108_1 hcz108_2 hcz108_3
          try clear hcz109_0 hcz109_1 hcz109_2 hcz109_3 hcz109_4
          try clear hcz111_0 hcz111_1 hcz111_2 hcz111_3
          try clear hcz112_0 hcz112_1 hcz112_2 hcz112_3 hcz112_4
          try clear hcz48_0 hcz48_1 hcz48_2 hcz48_3 hcz48_4
          try clear hcz50_0 hcz50_1 hcz50_2 hcz50_3
          try clear hcz51_0 hcz51_1 hcz51_2 hcz51_3 hcz51_4
          try clear hcz55_0 hcz55_1 hcz55_2 hcz55_3
          try clear hcz56_0 hcz56_1 hcz56_2 hcz56_3 hcz56_4
          try clear hcz58_0 hcz58_1 hcz58_2 hcz58_3
          try clear hcz59_0 hcz59_1 hcz59_2 hcz59_3 hcz59_4
          try clear hcz61_0 hcz61_1 hcz61_2 hcz61_3
          try clear hcz62_0 hcz62_1 hcz62_2 hcz62_3 hcz62_4
          try clear hcz64_0 hcz64_1 hcz64_2 hcz64_3
          try clear hcz65_0 hcz65_1 hcz65_2 hcz65_3 hcz65_4
          try clear hcz71_0 hcz71_1 hcz71_2 hcz71_3
          try clear hcz72_0 hcz72_1 hcz72_2 hcz72_3 hcz72_4
          try clear hcz74_0 hcz74_1 hcz74_2 hcz74_3
          try clear hcz75_0 hcz75_1 hcz75_2 hcz75_3 hcz75_4
          try clear hcz79_0 hcz79_1 hcz79_2 hcz79_3
          try clear hcz80_0 hcz80_1 hcz80_2 hcz80_3 hcz80_4
          try clear hcz82_0 hcz82_1 hcz82_2 hcz82_3
          try clear hcz83_0 hcz83_1 hcz83_2 hcz83_3 hcz83_4
          try clear hcz85_0 hcz85_1 hcz85_2 hcz85_3
          try clear hcz86_0 hcz86_1 hcz86_2 hcz86_3 hcz86_4
          try clear hcz91_0 hcz91_1 hcz91_2 hcz91_3
          try clear hcz92_0 hcz92_1 hcz92_2 hcz92_3 hcz92_4
          try clear hcz94_0 hcz94_1 hcz94_2 hcz94_3
          try clear hcz95_0 hcz95_1 hcz95_2 hcz95_3 hcz95_4
          try clear hcz99_0 hcz99_1 hcz99_2 hcz99_3
          try clear hfz100_0 hfz100_1 hfz100_2 hfz100_3 hfz100_4
          try clear hfz102_0 hfz102_1 hfz102_2 hfz102_3
          try clear hfz103_0 hfz103_1 hfz103_2 hfz103_3 hfz103_4
          try clear hfz105_0 hfz105_1 hfz105_2 hfz105_3
          try clear hfz106_0 hfz106_1 hfz106_2 hfz106_3 hfz106_4
          try clear hfz108_0 hfz108_1 hfz108_2 hfz108_3
          try clear hfz109_0 hfz109_1 hfz109_2 hfz109_3 hfz109_4
          try clear hfz111_0 hfz111_1 hfz111_2 hfz111_3
          try clear hfz112_0 hfz112_1 hfz112_2 hfz112_3 hfz112_4
          try clear hfz47_1 hfz47_2 hfz47_3
          try clear hfz48_0 hfz48_1 hfz48_2 hfz48_3 hfz48_4
          try clear hfz50_0 hfz50_1 hfz50_2 hfz50_3
          try clear hfz51_0 hfz51_1 hfz51_2 hfz51_3 hfz51_4
          try clear hfz55_0 hfz55_1 hfz55_2 hfz55_3
          try clear hfz56_0 hfz56_1 hfz56_2 hfz56_3 hfz56_4
          try clear hfz58_0 hfz58_1 hfz58_2 hfz58_3
          try clear hfz59_0 hfz59_1 hfz59_2 hfz59_3 hfz59_4
          try clear hfz61_0 hfz61_1 hfz61_2 hfz61_3
          try clear hfz62_0 hfz62_1 hfz62_2 hfz62_3 hfz62_4
          try clear hfz64_0 hfz64_1 hfz64_2 hfz64_3
          try clear hfz65_0 hfz65_1 hfz65_2 hfz65_3 hfz65_4
          try clear hfz71_0 hfz71_1 hfz71_2 hfz71_3
          try clear hfz72_0 hfz72_1 hfz72_2 hfz72_3 hfz72_4
          try clear hfz74_0 hfz74_1 hfz74_2 hfz74_3
          try clear hfz75_0 hfz75_1 hfz75_2 hfz75_3 hfz75_4
          try clear hfz79_0 hfz79_1 hfz79_2 hfz79_3
          try clear hfz80_0 hfz80_1 hfz80_2 hfz80_3 hfz80_4
          try clear hfz82_0 hfz82_1 hfz82_2 hfz82_3
          try clear hfz83_0 hfz83_1 hfz83_2 hfz83_3 hfz83_4
          try clear hfz85_0 hfz85_1 hfz85_2 hfz85_3
          try clear hfz86_0 hfz86_1 hfz86_2 hfz86_3 hfz86_4
          try clear hfz91_0 hfz91_1 hfz91_2 hfz91_3
          try clear hfz92_0 hfz92_1 hfz92_2 hfz92_3 hfz92_4
          try clear hfz94_0 hfz94_1 hfz94_2 hfz94_3
          try clear hfz95_0 hfz95_1 hfz95_2 hfz95_3 hfz95_4
          try clear hfz99_0 hfz99_1 hfz99_2 hfz99_3
          obtain ⟨kq, x26_21, rfl, HA, HJ21, BK242, BK247, HB⟩ := hcut
          cases kq with
          | zero => exact absurd HA.out (by simp [budwoodref04_Check.j1])
          | succ kj21 =>
            have H := HA.out
            clear HA
            simp only [budwoodref04_Check.j1] at H
            by_cases c113 : x26_21 = true
            · subst c113
              replace H := zT H
              obtain rfl := Option.some.inj H
              go_wp2
              go_ret
              exact ⟨zF, zB⟩
            · replace c113 := Bool.eq_false_iff.mpr c113
              subst c113
              replace H := zU H
              replace H := Option.bind_eq_some_iff.mp H
              obtain ⟨t248, A1140, H⟩ := H
              replace H : (if t248 = true then (if a0_0 = 17 then (if a0_4 < 0 then (some 11) else (if a0_0 = 21 then (if a0_4 > 63 then (some 11) else (some 0)) else (some 0))) else (if a0_0 = 21 then (if a0_4 < 0 then (some 11) else (if a0_4 > 63 then (some 11) else (some 0))) else (some 0))) else (some 11)) = some r := H
              have A114 := Aside0.mk A1140
              clear A1140
              by_cases c115 : t248 = true
              · subst c115
                replace H := zT H
                by_cases c116 : a0_0 = 17
                · rw [if_pos c116] at H
                  have c116b0 : (a0_0 == 17) = true := beq_iff_eq.mpr c116
                  have c116b1 : (a0_0 != 17) = false := bne_eq_false_iff_eq.mpr c116
                  clear c116
                  by_cases c117 : a0_4 < 0
                  · rw [if_pos c117] at H
                    have c117b0 : decide (a0_4 < 0) = true := decide_eq_true c117
                    clear c117
                    obtain rfl := Option.some.inj H
                    have hnb118 := NB242_247.out
                    have hnc118 := NB247_242.out
                    obtain ⟨hcz119_0, hcz119_1, hcz119_2, hcz119_3, hcz119_4⟩ := zc5 BK242
                    obtain ⟨hfz119_0, hfz119_1, hfz119_2, hfz119_3, hfz119_4⟩ := zf5 BK242
                    go_wp2_with (first | ((with_reducible refine gate_callee (f := 62) rfl ?_); refine zG (some 69) Try.func62 #[.int .i64 (wrap64 (a0_4)), .int .i64 21] ?_; (with_reducible refine (budwoodref01_Fits.calls (wrap64 (a0_4)) 21 true _ A114.out).mono ?_); rintro e w' ⟨rfl, ⟨nd, rfl⟩⟩; refine ⟨_, rfl, ?_⟩))
                    go_ret
                    exact ⟨zF, zB⟩
                  · rw [if_neg c117] at H
                    have c117b0 : decide (a0_4 < 0) = false := decide_eq_false c117
                    clear c117
                    by_cases c120 : a0_0 = 21
                    · rw [if_pos c120] at H
                      have c120b0 : (a0_0 == 21) = true := beq_iff_eq.mpr c120
                      have c120b1 : (a0_0 != 21) = false := bne_eq_false_iff_eq.mpr c120
                      clear c120
                      by_cases c121 : a0_4 > 63
                      · rw [if_pos c121] at H
                        have c121b0 : decide (63 < a0_4) = true := decide_eq_true c121
                        clear c121
                        obtain rfl := Option.some.inj H
                        have hnb122 := NB242_247.out
                        have hnc122 := NB247_242.out
                        obtain ⟨hcz123_0, hcz123_1, hcz123_2, hcz123_3, hcz123_4⟩ := zc5 BK242
                        obtain ⟨hfz123_0, hfz123_1, hfz123_2, hfz123_3, hfz123_4⟩ := zf5 BK242
                        go_wp2_with (first | ((with_reducible refine gate_callee (f := 62) rfl ?_); refine zG (some 69) Try.func62 #[.int .i64 (wrap64 (a0_4)), .int .i64 21] ?_; (with_reducible refine (budwoodref01_Fits.calls (wrap64 (a0_4)) 21 true _ A114.out).mono ?_); rintro e w' ⟨rfl, ⟨nd, rfl⟩⟩; refine ⟨_, rfl, ?_⟩))
                        go_ret
                        exact ⟨zF, zB⟩
                      · rw [if_neg c121] at H
                        have c121b0 : decide (63 < a0_4) = false := decide_eq_false c121
                        clear c121
                        obtain rfl := Option.some.inj H
                        have hnb124 := NB242_247.out
                        have hnc124 := NB247_242.out
                        obtain ⟨hcz125_0, hcz125_1, hcz125_2, hcz125_3, hcz125_4⟩ := zc5 BK242
                        obtain ⟨hfz125_0, hfz125_1, hfz125_2, hfz125_3, hfz125_4⟩ := zf5 BK242
                        go_wp2_with (first | ((with_reducible refine gate_callee (f := 62) rfl ?_); refine zG (some 69) Try.func62 #[.int .i64 (wrap64 (a0_4)), .int .i64 21] ?_; (with_reducible refine (budwoodref01_Fits.calls (wrap64 (a0_4)) 21 true _ A114.out).mono ?_); rintro e w' ⟨rfl, ⟨nd, rfl⟩⟩; refine ⟨_, rfl, ?_⟩))
                        go_ret
                        exact ⟨zF, zB⟩
                    · rw [if_neg c120] at H
                      have c120b0 : (a0_0 == 21) = false := beq_eq_false_iff_ne.mpr c120
                      have c120b1 : (a0_0 != 21) = true := bne_iff_ne.mpr c120
                      obtain rfl := Option.some.inj H
                      have hnb126 := NB242_247.out
                      have hnc126 := NB247_242.out
                      obtain ⟨hcz127_0, hcz127_1, hcz127_2, hcz127_3, hcz127_4⟩ := zc5 BK242
                      obtain ⟨hfz127_0, hfz127_1, hfz127_2, hfz127_3, hfz127_4⟩ := zf5 BK242
                      go_wp2_with (first | ((with_reducible refine gate_callee (f := 62) rfl ?_); refine zG (some 69) Try.func62 #[.int .i64 (wrap64 (a0_4)), .int .i64 21] ?_; (with_reducible refine (budwoodref01_Fits.calls (wrap64 (a0_4)) 21 true _ A114.out).mono ?_); rintro e w' ⟨rfl, ⟨nd, rfl⟩⟩; refine ⟨_, rfl, ?_⟩))
                      go_ret
                      exact ⟨zF, zB⟩
                · rw [if_neg c116] at H
                  have c116b0 : (a0_0 == 17) = false := beq_eq_false_iff_ne.mpr c116
                  have c116b1 : (a0_0 != 17) = true := bne_iff_ne.mpr c116
                  by_cases c128 : a0_0 = 21
                  · rw [if_pos c128] at H
                    have c128b0 : (a0_0 == 21) = true := beq_iff_eq.mpr c128
                    have c128b1 : (a0_0 != 21) = false := bne_eq_false_iff_eq.mpr c128
                    clear c128
                    by_cases c129 : a0_4 < 0
                    · rw [if_pos c129] at H
                      have c129b0 : decide (a0_4 < 0) = true := decide_eq_true c129
                      clear c129
                      obtain rfl := Option.some.inj H
                      have hnb130 := NB242_247.out
                      have hnc130 := NB247_242.out
                      obtain ⟨hcz131_0, hcz131_1, hcz131_2, hcz131_3, hcz131_4⟩ := zc5 BK242
                      obtain ⟨hfz131_0, hfz131_1, hfz131_2, hfz131_3, hfz131_4⟩ := zf5 BK242
                      go_wp2_with (first | ((with_reducible refine gate_callee (f := 62) rfl ?_); refine zG (some 69) Try.func62 #[.int .i64 (wrap64 (a0_4)), .int .i64 21] ?_; (with_reducible refine (budwoodref01_Fits.calls (wrap64 (a0_4)) 21 true _ A114.out).mono ?_); rintro e w' ⟨rfl, ⟨nd, rfl⟩⟩; refine ⟨_, rfl, ?_⟩))
                      go_ret
                      exact ⟨zF, zB⟩
                    · rw [if_neg c129] at H
                      have c129b0 : decide (a0_4 < 0) = false := decide_eq_false c129
                      clear c129
                      by_cases c132 : a0_4 > 63
                      · rw [if_pos c132] at H
                        have c132b0 : decide (63 < a0_4) = true := decide_eq_true c132
                        clear c132
                        obtain rfl := Option.some.inj H
                        have hnb133 := NB242_247.out
                        have hnc133 := NB247_242.out
                        obtain ⟨hcz134_0, hcz134_1, hcz134_2, hcz134_3, hcz134_4⟩ := zc5 BK242
                        obtain ⟨hfz134_0, hfz134_1, hfz134_2, hfz134_3, hfz134_4⟩ := zf5 BK242
                        go_wp2_with (first | ((with_reducible refine gate_callee (f := 62) rfl ?_); refine zG (some 69) Try.func62 #[.int .i64 (wrap64 (a0_4)), .int .i64 21] ?_; (with_reducible refine (budwoodref01_Fits.calls (wrap64 (a0_4)) 21 true _ A114.out).mono ?_); rintro e w' ⟨rfl, ⟨nd, rfl⟩⟩; refine ⟨_, rfl, ?_⟩))
                        go_ret
                        exact ⟨zF, zB⟩
                      · rw [if_neg c132] at H
                        have c132b0 : decide (63 < a0_4) = false := decide_eq_false c132
                        clear c132
                        obtain rfl := Option.some.inj H
                        have hnb135 := NB242_247.out
                        have hnc135 := NB247_242.out
                        obtain ⟨hcz136_0, hcz136_1, hcz136_2, hcz136_3, hcz136_4⟩ := zc5 BK242
                        obtain ⟨hfz136_0, hfz136_1, hfz136_2, hfz136_3, hfz136_4⟩ := zf5 BK242
                        go_wp2_with (first | ((with_reducible refine gate_callee (f := 62) rfl ?_); refine zG (some 69) Try.func62 #[.int .i64 (wrap64 (a0_4)), .int .i64 21] ?_; (with_reducible refine (budwoodref01_Fits.calls (wrap64 (a0_4)) 21 true _ A114.out).mono ?_); rintro e w' ⟨rfl, ⟨nd, rfl⟩⟩; refine ⟨_, rfl, ?_⟩))
                        go_ret
                        exact ⟨zF, zB⟩
                  · rw [if_neg c128] at H
                    have c128b0 : (a0_0 == 21) = false := beq_eq_false_iff_ne.mpr c128
                    have c128b1 : (a0_0 != 21) = true := bne_iff_ne.mpr c128
                    obtain rfl := Option.some.inj H
                    have hnb137 := NB242_247.out
                    have hnc137 := NB247_242.out
                    obtain ⟨hcz138_0, hcz138_1, hcz138_2, hcz138_3, hcz138_4⟩ := zc5 BK242
                    obtain ⟨hfz138_0, hfz138_1, hfz138_2, hfz138_3, hfz138_4⟩ := zf5 BK242
                    go_wp2_with (first | ((with_reducible refine gate_callee (f := 62) rfl ?_); refine zG (some 69) Try.func62 #[.int .i64 (wrap64 (a0_4)), .int .i64 21] ?_; (with_reducible refine (budwoodref01_Fits.calls (wrap64 (a0_4)) 21 true _ A114.out).mono ?_); rintro e w' ⟨rfl, ⟨nd, rfl⟩⟩; refine ⟨_, rfl, ?_⟩))
                    go_ret
                    exact ⟨zF, zB⟩
              · replace c115 := Bool.eq_false_iff.mpr c115
                subst c115
                replace H := zU H
                obtain rfl := Option.some.inj H
                have hnb139 := NB242_247.out
                have hnc139 := NB247_242.out
                obtain ⟨hcz140_0, hcz140_1, hcz140_2, hcz140_3, hcz140_4⟩ := zc5 BK242
                obtain ⟨hfz140_0, hfz140_1, hfz140_2, hfz140_3, hfz140_4⟩ := zf5 BK242
                go_wp2_with (first | ((with_reducible refine gate_callee (f := 62) rfl ?_); refine zG (some 69) Try.func62 #[.int .i64 (wrap64 (a0_4)), .int .i64 21] ?_; (with_reducible refine (budwoodref01_Fits.calls (wrap64 (a0_4)) 21 false _ A114.out).mono ?_); rintro e w' ⟨rfl, ⟨nd, rfl⟩⟩; refine ⟨_, rfl, ?_⟩))
                go_ret
                exact ⟨zF, zB⟩

/-! ### budwoodref01_May: function 60 -/
set_option maxHeartbeats 8000000 in
set_option maxRecDepth 100000 in
theorem budwoodref01_May.calls (a0 : Int) (a1 : Int) (r : Bool) (w : World) (h : budwoodref01_May.f a0 a1 = some r) :
    Calls Try.prog 60 #[.int .i64 a0, .int .i64 a1] w fun e w' => e = .returned (.bool r) ∧ Drawn0 w w' := by
  have H : (if a0 ≥ 0 then (if a1 ≥ 0 then (if a0 ≤ 32 then (some (decide (a1 ≤ (wrap64 (32 - a0))))) else (some false)) else (some false)) else (some false)) = some r := h
  clear h
  by_cases c3 : a0 ≥ 0
  · rw [if_pos c3] at H
    have c3b0 : decide (0 ≤ a0) = true := decide_eq_true c3
    clear c3
    by_cases c4 : a1 ≥ 0
    · rw [if_pos c4] at H
      have c4b0 : decide (0 ≤ a1) = true := decide_eq_true c4
      clear c4
      by_cases c5 : a0 ≤ 32
      · rw [if_pos c5] at H
        have c5b0 : decide (a0 ≤ 32) = true := decide_eq_true c5
        clear c5
        obtain rfl := Option.some.inj H
        go_enter Try.func60, Try.ntmps60
        go_wp2
        go_ret
        exact ⟨zE, zD⟩
      · rw [if_neg c5] at H
        have c5b0 : decide (a0 ≤ 32) = false := decide_eq_false c5
        clear c5
        obtain rfl := Option.some.inj H
        go_enter Try.func60, Try.ntmps60
        go_wp2
        go_ret
        exact ⟨zE, zD⟩
    · rw [if_neg c4] at H
      have c4b0 : decide (0 ≤ a1) = false := decide_eq_false c4
      clear c4
      obtain rfl := Option.some.inj H
      go_enter Try.func60, Try.ntmps60
      go_wp2
      go_ret
      exact ⟨zE, zD⟩
  · rw [if_neg c3] at H
    have c3b0 : decide (0 ≤ a0) = false := decide_eq_false c3
    clear c3
    obtain rfl := Option.some.inj H
    go_enter Try.func60, Try.ntmps60
    go_wp2
    go_ret
    exact ⟨zE, zD⟩

/-! ### budwoodref01_bit: function 61 -/
set_option maxHeartbeats 8000000 in
set_option maxRecDepth 100000 in
theorem budwoodref01_bit.calls (a0 : Int) (a1 : Int) (r : Int) (w : World) (h : budwoodref01_bit.f a0 a1 = some r) :
    Calls Try.prog 61 #[.int .u32 a0, .int .i64 a1] w fun e w' => e = .returned (.int .u32 r) ∧ Drawn0 w w' := by
  have H : (if 0 ≤ (IntKind.u64.wrap (a1)) then (some (Go.bits .and .u32 (shr .u32 a0 (IntKind.u64.wrap (a1))) 1)) else (none)) = some r := h
  clear h
  obtain ⟨ji3, hji3⟩ : ∃ j_ : Int, (IntKind.u64.wrap (a1)) = j_ := ⟨_, rfl⟩
  replace H : (if 0 ≤ (ji3) then (some (Go.bits .and .u32 (shr .u32 a0 (ji3)) 1)) else (none)) = some r := by first | (rw [hji3] at H; exact H) | (simp only [hji3] at H ⊢; exact H)
  by_cases c4 : 0 ≤ (ji3)
  · rw [if_pos c4] at H
    have c4b0 := eq_true c4
    have c4b1 : decide (0 ≤ (ji3)) = true := decide_eq_true c4
    clear c4
    obtain ⟨ji5, hji5⟩ : ∃ j_ : Int, (shr .u32 a0 (ji3)) = j_ := ⟨_, rfl⟩
    replace H : (some (Go.bits .and .u32 (ji5) 1)) = some r := by first | (rw [hji5] at H; exact H) | (simp only [hji5] at H ⊢; exact H)
    have hji5_ : (a0 / 2 ^ min (ji3).toNat 32) = ji5 := hji5
    have hji5z : (ji3) ≤ 32 → (a0 / 2 ^ (ji3).toNat) = ji5 := shr_small hji5
    obtain rfl := Option.some.inj H
    go_enter Try.func61, Try.ntmps61
    go_wp2
    go_ret
    exact ⟨by first | rfl | (simp; done) | (simp only [← hji3, ← hji5] <;> (first | rfl | simp)) | (simp [*]; done), zD⟩
  · rw [if_neg c4] at H
    exact absurd H (by simp)

end Go.Proofs.Ytllkloneapjgjaa.P
