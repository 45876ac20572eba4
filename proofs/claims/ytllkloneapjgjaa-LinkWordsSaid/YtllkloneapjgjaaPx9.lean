-- WRITTEN BY bud.py (a program of this session's over the kit's print). Not trusted: Lean checks it.
import Derived.Test.YtllkloneapjgjaaPx0
import Derived.Test.YtllkloneapjgjaaPxf
import Derived.Test.YtllkloneapjgjaaPx4
import Derived.Test.YtllkloneapjgjaaPx6
import Derived.Test.YtllkloneapjgjaaPx8
namespace Go.Proofs.Ytllkloneapjgjaa.P
open Go.RowKit Go.Proofs.YtllkloneapjgjaaW.PrintWords Go.Proofs.YtllkloneapjgjaaW.PrintLast Go.Proofs.YtllkloneapjgjaaW.PrintMore
attribute [local go_sem] max2_int min2_int max_two min_two max_three min_three max_four min_four   -- for this text's walks alone
set_option linter.unusedVariables false
set_option linter.unusedSimpArgs false

/-! ### reloc_Apply: function 20 -/
set_option maxHeartbeats 8000000 in
set_option maxRecDepth 100000 in
theorem reloc_Apply.calls (k : Nat) (a0 : Int) (a1 : Int) (a2 : Int) (r1 : Int) (r2 : Int) (w : World) (h : reloc_Apply.f k a0 a1 a2 = some (r1, r2)) :
    Calls Try.prog 20 #[.int .u32 a0, .int .u8 a1, .int .u32 a2] w fun e w' => e = .returned (.tuple #[.int .u32 r1, .int .i64 r2]) ∧ Below w.heap.size w w' := by
  have hu75 := Try.underlying75
  have HB := Aside0.mk (Below.refl w.heap.size w)
  have H : (if a1 = 4 then (some (a2, 0)) else (if a1 = 5 then (some (a2, 0)) else (if a1 = 6 then (some (a2, 0)) else (if a1 > 7 then (some (0, 2)) else ((reloc_blank.f k a0 a1).bind fun bt162 => (if bt162.2.2.2.2.2.2 = 0 then (reloc_Apply.j0 k a2 (bt162.2.2.2.2.2.1 != 0) bt162.1 bt162.2.1 bt162.2.2.1 bt162.2.2.2.1 bt162.2.2.2.2.1) else (reloc_Apply.j0 k a2 true bt162.1 bt162.2.1 bt162.2.2.1 bt162.2.2.2.1 bt162.2.2.2.2.1))))))) = some (r1, r2) := h
  clear h
  by_cases c4 : a1 = 4
  · rw [if_pos c4] at H
    have c4b0 : (a1 == 4) = true := beq_iff_eq.mpr c4
    have c4b1 : (a1 != 4) = false := bne_eq_false_iff_eq.mpr c4
    clear c4
    simp only [Option.some.injEq, Prod.mk.injEq] at H
    obtain ⟨rfl, rfl⟩ := H
    go_enter Try.func20, Try.ntmps20
    go_wp2
    go_ret2
    exact ⟨zF, zB⟩
  · rw [if_neg c4] at H
    have c4b0 : (a1 == 4) = false := beq_eq_false_iff_ne.mpr c4
    have c4b1 : (a1 != 4) = true := bne_iff_ne.mpr c4
    by_cases c5 : a1 = 5
    · rw [if_pos c5] at H
      have c5b0 : (a1 == 5) = true := beq_iff_eq.mpr c5
      have c5b1 : (a1 != 5) = false := bne_eq_false_iff_eq.mpr c5
      clear c5
      simp only [Option.some.injEq, Prod.mk.injEq] at H
      obtain ⟨rfl, rfl⟩ := H
      go_enter Try.func20, Try.ntmps20
      go_wp2
      go_ret2
      exact ⟨zF, zB⟩
    · rw [if_neg c5] at H
      have c5b0 : (a1 == 5) = false := beq_eq_false_iff_ne.mpr c5
      have c5b1 : (a1 != 5) = true := bne_iff_ne.mpr c5
      by_cases c6 : a1 = 6
      · rw [if_pos c6] at H
        have c6b0 : (a1 == 6) = true := beq_iff_eq.mpr c6
        have c6b1 : (a1 != 6) = false := bne_eq_false_iff_eq.mpr c6
        clear c6
        simp only [Option.some.injEq, Prod.mk.injEq] at H
        obtain ⟨rfl, rfl⟩ := H
        go_enter Try.func20, Try.ntmps20
        go_wp2
        go_ret2
        exact ⟨zF, zB⟩
      · rw [if_neg c6] at H
        have c6b0 : (a1 == 6) = false := beq_eq_false_iff_ne.mpr c6
        have c6b1 : (a1 != 6) = true := bne_iff_ne.mpr c6
        by_cases c7 : a1 > 7
        · rw [if_pos c7] at H
          have c7b0 : decide (7 < a1) = true := decide_eq_true c7
          clear c7
          simp only [Option.some.injEq, Prod.mk.injEq] at H
          obtain ⟨rfl, rfl⟩ := H
          go_enter Try.func20, Try.ntmps20
          go_wp2
          go_ret2
          exact ⟨zF, zB⟩
        · rw [if_neg c7] at H
          have c7b0 : decide (7 < a1) = false := decide_eq_false c7
          clear c7
          replace H := Option.bind_eq_some_iff.mp H
          obtain ⟨⟨t162, t163, t164, t165, t166, t167, t168⟩, A80, H⟩ := H
          replace H : (if t168 = 0 then (reloc_Apply.j0 k a2 (t167 != 0) t162 t163 t164 t165 t166) else (reloc_Apply.j0 k a2 true t162 t163 t164 t165 t166)) = some (r1, r2) := H
          have A8 := Aside0.mk A80
          clear A80
          have HC9 := Aside0.mk H
          clear H
          go_enter Try.func20, Try.ntmps20
          go_upto_region 9 with (first | ((with_reducible refine gate_callee (f := 32) rfl ?_); refine zG (some 22) Try.func32 #[.int .u32 a0, .int .u8 a1] ?_; (with_reducible refine (reloc_blank.calls k a0 a1 t162 t163 t164 t165 t166 t167 t168 _ A8.out).mono ?_); rintro e w10 ⟨rfl, hb⟩; refine ⟨_, rfl, ?_⟩; replace HB := Aside0.mk (below_step zB hb); (try clear hb); (try clear hb2); (try clear hk); (try clear hi)) | ((with_reducible refine gate_dst (N := 8) rfl ?_); refine zX (N := 8) (cs := #[.int .u8 0, .int .u8 0, .int .u8 0, .int .u8 0, .int .i32 0]) (t := 75) ?_ ?_; (focus first | (go_simp; done) | (go_simp; rfl)); intro gb169 hg w11 hbox hb; have BK169 := Aside0.mk (hbox); have GW169 := Aside0.mk (zS hg : w.heap.size ≤ gb169); have GE169 := Aside0.mk (zS hg : w.heap.size ≤ gb169); replace HB := Aside0.mk (below_step zB hb); clear hb hbox hg; obtain ⟨hcz12_0, hcz12_1, hcz12_2, hcz12_3, hcz12_4⟩ := zc5 BK169; obtain ⟨hfz12_0, hfz12_1, hfz12_2, hfz12_3, hfz12_4⟩ := zf5 BK169))
          (try simp only [Act.put, List.setIfInBounds_toArray, List.set_cons_zero, List.set_cons_succ])
          go_cut [26] (fun v26 wc => ∃ (kq : Nat) (x26_8 : Bool), v26 = .bool x26_8 ∧ Aside0 (reloc_Apply.j0 kq a2 x26_8 t162 t163 t164 t165 t166 = some (r1, r2)) ∧ Aside0 (kq ≤ k) ∧ Aside0 (wc.heap[gb169]? = some (.cells #[.int .u8 t162, .int .u8 t163, .int .u8 t164, .int .u8 t165, .int .i32 t166] 75 (0, 0))) ∧ Aside0 (Below w.heap.size w wc))
          case first =>
            have H := HC9.out
            clear HC9
            by_cases c13 : t168 = 0
            · rw [if_pos c13] at H
              have c13b0 : (t168 == 0) = true := beq_iff_eq.mpr c13
              have c13b1 : (t168 != 0) = false := bne_eq_false_iff_eq.mpr c13
              clear c13
              (first | rw [c13b0] | (simp only [i64_w, i32_w]; rw [c13b0]) | skip)
              have H' := Aside0.mk H
              clear H
              go_wp2
              go_meet
              case rel => exact ⟨_, ((t167 != 0)), (zE), H', ⟨by first | omega | exact Nat.le_refl _⟩, ⟨zV⟩, ⟨zB⟩⟩
            · rw [if_neg c13] at H
              have c13b0 : (t168 == 0) = false := beq_eq_false_iff_ne.mpr c13
              have c13b1 : (t168 != 0) = true := bne_iff_ne.mpr c13
              (first | rw [c13b0] | (simp only [i64_w, i32_w]; rw [c13b0]) | skip)
              have H' := Aside0.mk H
              clear H
              go_wp2
              go_meet
              case rel => exact ⟨_, (true), (zE), H', ⟨by first | omega | exact Nat.le_refl _⟩, ⟨zV⟩, ⟨zB⟩⟩
          case rest =>
            clear HC9
            try clear c1
            try clear c2
            try clear p2
            try clear c3
            try clear c4
            try clear c4b0
            try clear c4b1
            try clear c5
            try clear c5b0
            try clear c5b1
            try clear c6
            try clear c6b0
            try clear c6b1
            try clear c7
            try clear c7b0
            try clear c13
            try clear c13b0
            try clear c13b1
            try clear hcz12_0 hcz12_1 hcz12_2 hcz12_3 hcz12_4
            try clear hfz12_0 hfz12_1 hfz12_2 hfz12_3 hfz12_4
            obtain ⟨kq, x26_8, rfl, HA, HJ8, BK169, HB⟩ := hcut
            cases kq with
            | zero => exact absurd HA.out (by simp [reloc_Apply.j0])
            | succ kj8 =>
              have H := HA.out
              clear HA
              simp only [reloc_Apply.j0] at H
              by_cases c14 : x26_8 = true
              · subst c14
                replace H := zT H
                simp only [Option.some.injEq, Prod.mk.injEq] at H
                obtain ⟨rfl, rfl⟩ := H
                go_wp2
                go_ret2
                exact ⟨zF, zB⟩
              · replace c14 := Bool.eq_false_iff.mpr c14
                subst c14
                replace H := zU H
                replace H := Option.bind_eq_some_iff.mp H
                obtain ⟨t170, A150, H⟩ := H
                replace H : (if t170 = true then ((isa_Encode.f kj8 t162 t163 t164 t165 (wrap32 (a2))).bind fun bt171 => (some (bt171.1, bt171.2))) else (some (0, 30))) = some (r1, r2) := H
                have A15 := Aside0.mk A150
                clear A150
                by_cases c16 : t170 = true
                · subst c16
                  replace H := zT H
                  replace H := Option.bind_eq_some_iff.mp H
                  obtain ⟨⟨t171, t172⟩, A170, H⟩ := H
                  replace H : (some (t171, t172)) = some (r1, r2) := H
                  have A17 := Aside0.mk A170
                  clear A170
                  simp only [Option.some.injEq, Prod.mk.injEq] at H
                  obtain ⟨rfl, rfl⟩ := H
                  go_wp2_with (first | ((with_reducible refine gate_callee (f := 33) rfl ?_); refine zG (some 36) Try.func33 #[.int .i64 (wrap64 (a2)), .int .i64 21] ?_; (with_reducible refine (word_Fits.calls (wrap64 (a2)) 21 true _ A15.out).mono ?_); rintro e w' ⟨rfl, ⟨nd, rfl⟩⟩; refine ⟨_, rfl, ?_⟩; (try (rw [drewN_self wc]; generalize hq_ : World.drewN wc _ = wc; have n0_ : Aside0 (wc.heap[gb169]? = some (.cells #[.int .u8 t162, .int .u8 t163, .int .u8 t164, .int .u8 t165, .int .i32 t166] 75 (0, 0))) := ⟨by rw [← hq_]; exact zK⟩; have n1_ : Aside0 (Below w.heap.size w wc) := ⟨by rw [← hq_]; exact zB⟩; clear BK169 HB hq_; have BK169 := n0_; have HB := n1_; clear n0_ n1_)); obtain ⟨hcz18_0, hcz18_1, hcz18_2, hcz18_3, hcz18_4⟩ := zc5 BK169; obtain ⟨hfz18_0, hfz18_1, hfz18_2, hfz18_3, hfz18_4⟩ := zf5 BK169) | ((with_reducible refine gate_callee (f := 34) rfl ?_); refine zG (some 42) Try.func34 #[.agg #[.int .u8 t162, .int .u8 t163, .int .u8 t164, .int .u8 t165, .int .i32 (wrap32 (a2))]] ?_; (with_reducible refine (isa_Encode.calls kj8 t162 t163 t164 t165 (wrap32 (a2)) t171 t172 _ A17.out).mono ?_); rintro e w19 ⟨rfl, hb⟩; refine ⟨_, rfl, ?_⟩; replace BK169 := Aside0.mk (blk_below (g := gb169) (o := .cells #[.int .u8 t162, .int .u8 t163, .int .u8 t164, .int .u8 t165, .int .i32 (wrap32 (a2))] 75 (0, 0)) zV hb); replace HB := Aside0.mk (below_step zB hb); (try clear hb); (try clear hb2); (try clear hk); (try clear hi)))
                  go_ret2
                  exact ⟨zF, zB⟩
                · replace c16 := Bool.eq_false_iff.mpr c16
                  subst c16
                  replace H := zU H
                  simp only [Option.some.injEq, Prod.mk.injEq] at H
                  obtain ⟨rfl, rfl⟩ := H
                  go_wp2_with (first | ((with_reducible refine gate_callee (f := 33) rfl ?_); refine zG (some 36) Try.func33 #[.int .i64 (wrap64 (a2)), .int .i64 21] ?_; (with_reducible refine (word_Fits.calls (wrap64 (a2)) 21 false _ A15.out).mono ?_); rintro e w' ⟨rfl, ⟨nd, rfl⟩⟩; refine ⟨_, rfl, ?_⟩))
                  go_ret2
                  exact ⟨zF, zB⟩

end Go.Proofs.Ytllkloneapjgjaa.P
