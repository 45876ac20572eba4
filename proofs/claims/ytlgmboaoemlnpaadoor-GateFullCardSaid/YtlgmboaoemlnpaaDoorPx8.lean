-- WRITTEN BY bud.py (a program of this session's over the kit's print). Not trusted: Lean checks it.
import Derived.Test.YtlgmboaoemlnpaaDoorPx0
import Derived.Test.YtlgmboaoemlnpaaDoorPxf
import Derived.Test.YtlgmboaoemlnpaaDoorPx1
import Derived.Test.YtlgmboaoemlnpaaDoorPx2
import Derived.Test.YtlgmboaoemlnpaaDoorPx5
import Derived.Test.YtlgmboaoemlnpaaDoorPx6
import Derived.Test.YtlgmboaoemlnpaaDoorPx7
namespace Go.Proofs.YtlgmboaoemlnpaaDoor.P
open Go.RowKit Go.Proofs.YtlgmboaoemlnpaaDoorW.PrintWords Go.Proofs.YtlgmboaoemlnpaaDoorW.PrintLast Go.Proofs.YtlgmboaoemlnpaaDoorW.PrintMore
attribute [local go_sem] max2_int min2_int max_two min_two max_three min_three max_four min_four   -- for this text's walks alone
set_option linter.unusedVariables false
set_option linter.unusedSimpArgs false

attribute [local go_sem high] eqA31
/-! ### budwoodlaw18_awake: function 12 -/
set_option maxHeartbeats 8000000 in
set_option maxRecDepth 100000 in
theorem budwoodlaw18_awake.calls (k : Nat)  (r : Bool) (w : World) (h : budwoodlaw18_awake.f k  = some r) (hG_ : Glob w) :
    Calls Tryd.prog 12 #[] w fun e w' => e = .returned (.bool r) ∧ Below w.heap.size w w' := by
  have hu31 := Tryd.underlying31
  have HB := Aside0.mk (Below.refl w.heap.size w)
  have H : ((gate_New.f).bind fun t150 => ((gate_Table_Open.f k t150 (⟨#[109]⟩ : ByteArray) 1 80).bind fun bt152 => ((gate_Table_Open.f k bt152.2.2 (⟨#[110]⟩ : ByteArray) 2 96).bind fun bt155 => ((gate_Table_Turn.f k bt155.2.2 (⟨#[109]⟩ : ByteArray) 3 160).bind fun bt158 => (if bt152.1 = 0 then (if bt155.1 = 1 then (if bt158.1 = 0 then (if bt152.2.1 = 0 then (if bt155.2.1 = 0 then (if bt158.2.2.2.2.1 = 0 then (if (bt158.2.1.toList == ([109] : List UInt8) && (bt158.2.2.1 == 1 && (bt158.2.2.2.1 == 80))) = true then ((gate_Table_Free.f k bt158.2.2.2.2.2).bind fun bt165 => (if bt165.1 = 6 then (budwoodlaw18_awake.j0 k true) else (budwoodlaw18_awake.j0 k false))) else (budwoodlaw18_awake.j0 k false)) else (budwoodlaw18_awake.j0 k false)) else (budwoodlaw18_awake.j0 k false)) else (budwoodlaw18_awake.j0 k false)) else (budwoodlaw18_awake.j0 k false)) else (budwoodlaw18_awake.j0 k false)) else (budwoodlaw18_awake.j0 k false)))))) = some r := h
  clear h
  replace H := Option.bind_eq_some_iff.mp H
  obtain ⟨t150, A10, H⟩ := H
  replace H : ((gate_Table_Open.f k t150 (⟨#[109]⟩ : ByteArray) 1 80).bind fun bt152 => ((gate_Table_Open.f k bt152.2.2 (⟨#[110]⟩ : ByteArray) 2 96).bind fun bt155 => ((gate_Table_Turn.f k bt155.2.2 (⟨#[109]⟩ : ByteArray) 3 160).bind fun bt158 => (if bt152.1 = 0 then (if bt155.1 = 1 then (if bt158.1 = 0 then (if bt152.2.1 = 0 then (if bt155.2.1 = 0 then (if bt158.2.2.2.2.1 = 0 then (if (bt158.2.1.toList == ([109] : List UInt8) && (bt158.2.2.1 == 1 && (bt158.2.2.2.1 == 80))) = true then ((gate_Table_Free.f k bt158.2.2.2.2.2).bind fun bt165 => (if bt165.1 = 6 then (budwoodlaw18_awake.j0 k true) else (budwoodlaw18_awake.j0 k false))) else (budwoodlaw18_awake.j0 k false)) else (budwoodlaw18_awake.j0 k false)) else (budwoodlaw18_awake.j0 k false)) else (budwoodlaw18_awake.j0 k false)) else (budwoodlaw18_awake.j0 k false)) else (budwoodlaw18_awake.j0 k false)) else (budwoodlaw18_awake.j0 k false))))) = some r := H
  have A1 := Aside0.mk A10
  clear A10
  replace H := Option.bind_eq_some_iff.mp H
  obtain ⟨⟨t152, t153, t154⟩, A20, H⟩ := H
  replace H : ((gate_Table_Open.f k t154 (⟨#[110]⟩ : ByteArray) 2 96).bind fun bt155 => ((gate_Table_Turn.f k bt155.2.2 (⟨#[109]⟩ : ByteArray) 3 160).bind fun bt158 => (if t152 = 0 then (if bt155.1 = 1 then (if bt158.1 = 0 then (if t153 = 0 then (if bt155.2.1 = 0 then (if bt158.2.2.2.2.1 = 0 then (if (bt158.2.1.toList == ([109] : List UInt8) && (bt158.2.2.1 == 1 && (bt158.2.2.2.1 == 80))) = true then ((gate_Table_Free.f k bt158.2.2.2.2.2).bind fun bt165 => (if bt165.1 = 6 then (budwoodlaw18_awake.j0 k true) else (budwoodlaw18_awake.j0 k false))) else (budwoodlaw18_awake.j0 k false)) else (budwoodlaw18_awake.j0 k false)) else (budwoodlaw18_awake.j0 k false)) else (budwoodlaw18_awake.j0 k false)) else (budwoodlaw18_awake.j0 k false)) else (budwoodlaw18_awake.j0 k false)) else (budwoodlaw18_awake.j0 k false)))) = some r := H
  have A2 := Aside0.mk A20
  clear A20
  replace H := Option.bind_eq_some_iff.mp H
  obtain ⟨⟨t155, t156, t157⟩, A30, H⟩ := H
  replace H : ((gate_Table_Turn.f k t157 (⟨#[109]⟩ : ByteArray) 3 160).bind fun bt158 => (if t152 = 0 then (if t155 = 1 then (if bt158.1 = 0 then (if t153 = 0 then (if t156 = 0 then (if bt158.2.2.2.2.1 = 0 then (if (bt158.2.1.toList == ([109] : List UInt8) && (bt158.2.2.1 == 1 && (bt158.2.2.2.1 == 80))) = true then ((gate_Table_Free.f k bt158.2.2.2.2.2).bind fun bt165 => (if bt165.1 = 6 then (budwoodlaw18_awake.j0 k true) else (budwoodlaw18_awake.j0 k false))) else (budwoodlaw18_awake.j0 k false)) else (budwoodlaw18_awake.j0 k false)) else (budwoodlaw18_awake.j0 k false)) else (budwoodlaw18_awake.j0 k false)) else (budwoodlaw18_awake.j0 k false)) else (budwoodlaw18_awake.j0 k false)) else (budwoodlaw18_awake.j0 k false))) = some r := H
  have A3 := Aside0.mk A30
  clear A30
  replace H := Option.bind_eq_some_iff.mp H
  obtain ⟨⟨t158, t159, t160, t161, t162, t163⟩, A40, H⟩ := H
  replace H : (if t152 = 0 then (if t155 = 1 then (if t158 = 0 then (if t153 = 0 then (if t156 = 0 then (if t162 = 0 then (if (t159.toList == ([109] : List UInt8) && (t160 == 1 && (t161 == 80))) = true then ((gate_Table_Free.f k t163).bind fun bt165 => (if bt165.1 = 6 then (budwoodlaw18_awake.j0 k true) else (budwoodlaw18_awake.j0 k false))) else (budwoodlaw18_awake.j0 k false)) else (budwoodlaw18_awake.j0 k false)) else (budwoodlaw18_awake.j0 k false)) else (budwoodlaw18_awake.j0 k false)) else (budwoodlaw18_awake.j0 k false)) else (budwoodlaw18_awake.j0 k false)) else (budwoodlaw18_awake.j0 k false)) = some r := H
  have A4 := Aside0.mk A40
  clear A40
  have HC5 := Aside0.mk H
  clear H
  go_enter Tryd.func12, Tryd.ntmps12
  go_upto_region 5 with (first | ((with_reducible refine gate_callee (f := 8) rfl ?_); refine zG (some 9) Tryd.func8 #[] ?_; (with_reducible refine (gate_New.calls  t150 w _ ?side1 A1.out).mono ?_); (case side1 => repeat (first | (with_reducible first | exact HB.out | apply below_alloc | apply pw_below_drewN | apply below_drew1) | exact HB.out)); rintro e w6 ⟨g151, rfl, hi, hb, hb2⟩; refine ⟨_, rfl, ?_⟩; have HI151 := Aside0.mk (hi); replace HB := Aside0.mk (hb); (try clear hb); (try clear hb2); (try clear hk); (try clear hi)) | ((with_reducible refine gate_callee (f := 9) rfl ?_); refine zG (some 13) Tryd.func9 #[.pointer (some ⟨g151, 0, none⟩), .agg #[.string (⟨#[109]⟩ : ByteArray), .int .u16 1, .int .u32 80]] ?_; (with_reducible refine (gate_Table_Open.calls k g151 t150 (⟨#[109]⟩ : ByteArray) 1 80 t152 t153 t154 w _ ?side1 ?side2 A2.out ?side3).mono ?_); (case side1 => repeat (first | (with_reducible first | exact HI151.out | apply IsS53.alloc | apply IsS53.drewN | apply IsS53.drew | refine IsS53.putAt ?_ rfl rfl (by assumption) (by assumption) | apply IsS53.putAll) | exact HI151.out)); (case side2 => repeat (first | (with_reducible first | exact HB.out | apply below_alloc | apply pw_below_drewN | apply below_drew1 | refine below_set ?_ (IsS53.ge HI151.out)) | exact HB.out)); (case side3 => first | exact hG_ | exact hG_.g | (refine Glob.below (by first | exact hG_ | exact hG_.g) ?_; repeat (first | (with_reducible first | exact HB.out | apply below_alloc | apply pw_below_drewN | apply below_drew1 | refine below_set ?_ (IsS53.ge HI151.out)) | exact HB.out))); rintro e w7 ⟨rfl, hi, hb, hk⟩; refine ⟨_, rfl, ?_⟩; replace HI151 := Aside0.mk (hi); replace HB := Aside0.mk (hb); (try clear hb); (try clear hb2); (try clear hk); (try clear hi)) | ((with_reducible refine gate_callee (f := 9) rfl ?_); refine zG (some 19) Tryd.func9 #[.pointer (some ⟨g151, 0, none⟩), .agg #[.string (⟨#[110]⟩ : ByteArray), .int .u16 2, .int .u32 96]] ?_; (with_reducible refine (gate_Table_Open.calls k g151 t154 (⟨#[110]⟩ : ByteArray) 2 96 t155 t156 t157 w _ ?side1 ?side2 A3.out ?side3).mono ?_); (case side1 => repeat (first | (with_reducible first | exact HI151.out | apply IsS53.alloc | apply IsS53.drewN | apply IsS53.drew | refine IsS53.putAt ?_ rfl rfl (by assumption) (by assumption) | apply IsS53.putAll) | exact HI151.out)); (case side2 => repeat (first | (with_reducible first | exact HB.out | apply below_alloc | apply pw_below_drewN | apply below_drew1 | refine below_set ?_ (IsS53.ge HI151.out)) | exact HB.out)); (case side3 => first | exact hG_ | exact hG_.g | (refine Glob.below (by first | exact hG_ | exact hG_.g) ?_; repeat (first | (with_reducible first | exact HB.out | apply below_alloc | apply pw_below_drewN | apply below_drew1 | refine below_set ?_ (IsS53.ge HI151.out)) | exact HB.out))); rintro e w8 ⟨rfl, hi, hb, hk⟩; refine ⟨_, rfl, ?_⟩; replace HI151 := Aside0.mk (hi); replace HB := Aside0.mk (hb); (try clear hb); (try clear hb2); (try clear hk); (try clear hi)) | ((with_reducible refine gate_callee (f := 18) rfl ?_); refine zG (some 25) Tryd.func18 #[.pointer (some ⟨g151, 0, none⟩), .agg #[.string (⟨#[109]⟩ : ByteArray), .int .u16 3, .int .u32 160]] ?_; (with_reducible refine (gate_Table_Turn.calls k g151 t157 (⟨#[109]⟩ : ByteArray) 3 160 t158 t159 t160 t161 t162 t163 w _ ?side1 ?side2 A4.out).mono ?_); (case side1 => repeat (first | (with_reducible first | exact HI151.out | apply IsS53.alloc | apply IsS53.drewN | apply IsS53.drew | refine IsS53.putAt ?_ rfl rfl (by assumption) (by assumption) | apply IsS53.putAll) | exact HI151.out)); (case side2 => repeat (first | (with_reducible first | exact HB.out | apply below_alloc | apply pw_below_drewN | apply below_drew1 | refine below_set ?_ (IsS53.ge HI151.out)) | exact HB.out)); rintro e w9 ⟨rfl, hi, hb, hk⟩; refine ⟨_, rfl, ?_⟩; replace HI151 := Aside0.mk (hi); replace HB := Aside0.mk (hb); (try clear hb); (try clear hb2); (try clear hk); (try clear hi)) | ((with_reducible refine gate_dst (N := 7) rfl ?_); refine zX (N := 7) (cs := #[.string (⟨#[]⟩ : ByteArray), .int .u16 0, .int .u32 0]) (t := 31) ?_ ?_; (focus first | (go_simp; done) | (go_simp; rfl)); intro gb164 hg w10 hbox hb; have BK164 := Aside0.mk (hbox); have GW164 := Aside0.mk ((by rw [hg]; exact (below_size (by repeat (first | (with_reducible first | exact HB.out | apply below_alloc | apply pw_below_drewN | apply below_drew1 | refine below_set ?_ (IsS53.ge HI151.out)) | exact HB.out))) : w.heap.size ≤ gb164)); have GE164 := Aside0.mk ((by rw [hg]; exact (below_size (by repeat (first | (with_reducible first | exact HB.out | apply below_alloc | apply pw_below_drewN | apply below_drew1 | refine below_set ?_ (IsS53.ge HI151.out)) | exact HB.out))) : w.heap.size ≤ gb164)); have NB151_164 := Aside0.mk ((by rw [hg]; exact Nat.ne_of_lt (IsS53.lt (show IsS53 w _ g151 t163 from by repeat (first | (with_reducible first | exact HI151.out | apply IsS53.alloc | apply IsS53.drewN | apply IsS53.drew | refine IsS53.putAt ?_ rfl rfl (by assumption) (by assumption) | apply IsS53.putAll) | exact HI151.out))) : g151 ≠ gb164)); have NB164_151 := Aside0.mk ((by rw [hg]; exact Nat.ne_of_gt (IsS53.lt (show IsS53 w _ g151 t163 from by repeat (first | (with_reducible first | exact HI151.out | apply IsS53.alloc | apply IsS53.drewN | apply IsS53.drew | refine IsS53.putAt ?_ rfl rfl (by assumption) (by assumption) | apply IsS53.putAll) | exact HI151.out))) : gb164 ≠ g151)); replace HB := Aside0.mk (below_step (by repeat (first | (with_reducible first | exact HB.out | apply below_alloc | apply pw_below_drewN | apply below_drew1 | refine below_set ?_ (IsS53.ge HI151.out)) | exact HB.out)) hb); replace HI151 := Aside0.mk (IsS53.below (by repeat (first | (with_reducible first | exact HI151.out | apply IsS53.alloc | apply IsS53.drewN | apply IsS53.drew | refine IsS53.putAt ?_ rfl rfl (by assumption) (by assumption) | apply IsS53.putAll) | exact HI151.out)) hb); clear hb hbox hg; have hnb11 := NB164_151.out; have hnc11 := NB151_164.out; obtain ⟨hcz12_0, hcz12_1, hcz12_2⟩ := zc3 BK164; obtain ⟨hfz12_0, hfz12_1, hfz12_2⟩ := zf3 BK164))
  (try simp only [Act.put, List.setIfInBounds_toArray, List.set_cons_zero, List.set_cons_succ])
  go_cut [0] (fun v0 wc => ∃ (kq : Nat) (x0_4 : Bool), v0 = .bool x0_4 ∧ Aside0 (budwoodlaw18_awake.j0 kq x0_4 = some r) ∧ Aside0 (kq ≤ k) ∧ Aside0 (wc.heap[gb164]? = some (.cells #[.string t159, .int .u16 t160, .int .u32 t161] 31 (0, 0))) ∧ Aside0 (Below w.heap.size w wc))
  case first =>
    have H := HC5.out
    clear HC5
    by_cases c13 : t152 = 0
    · rw [if_pos c13] at H
      have c13b0 : (t152 == 0) = true := beq_iff_eq.mpr c13
      have c13b1 : (t152 != 0) = false := bne_eq_false_iff_eq.mpr c13
      clear c13
      (first | rw [c13b0] | (simp only [i64_w, i32_w]; rw [c13b0]) | skip)
      by_cases c14 : t155 = 1
      · rw [if_pos c14] at H
        have c14b0 : (t155 == 1) = true := beq_iff_eq.mpr c14
        have c14b1 : (t155 != 1) = false := bne_eq_false_iff_eq.mpr c14
        clear c14
        by_cases c15 : t158 = 0
        · rw [if_pos c15] at H
          have c15b0 : (t158 == 0) = true := beq_iff_eq.mpr c15
          have c15b1 : (t158 != 0) = false := bne_eq_false_iff_eq.mpr c15
          clear c15
          by_cases c16 : t153 = 0
          · rw [if_pos c16] at H
            have c16b0 : (t153 == 0) = true := beq_iff_eq.mpr c16
            have c16b1 : (t153 != 0) = false := bne_eq_false_iff_eq.mpr c16
            clear c16
            by_cases c17 : t156 = 0
            · rw [if_pos c17] at H
              have c17b0 : (t156 == 0) = true := beq_iff_eq.mpr c17
              have c17b1 : (t156 != 0) = false := bne_eq_false_iff_eq.mpr c17
              clear c17
              by_cases c18 : t162 = 0
              · rw [if_pos c18] at H
                have c18b0 : (t162 == 0) = true := beq_iff_eq.mpr c18
                have c18b1 : (t162 != 0) = false := bne_eq_false_iff_eq.mpr c18
                clear c18
                by_cases c19 : (t159.toList == ([109] : List UInt8) && (t160 == 1 && (t161 == 80))) = true
                · rw [if_pos c19] at H
                  have c19b0 : (t159.toList == ([109] : List UInt8) && (t160 == 1 && (t161 == 80))) = true := c19
                  (try (have c19b1 : decide (t159.toList = ([109] : List UInt8) && (t160 == 1 && (t161 == 80))) = true := by simpa using c19))
                  (try (have c19b2 : (t159.toList == ([109] : List UInt8) && (t160 == 1 && (t161 == 80))) = true := by simpa using c19))
                  clear c19
                  replace H := Option.bind_eq_some_iff.mp H
                  obtain ⟨⟨t165, t166⟩, A200, H⟩ := H
                  replace H : (if t165 = 6 then (budwoodlaw18_awake.j0 k true) else (budwoodlaw18_awake.j0 k false)) = some r := H
                  have A20 := Aside0.mk A200
                  clear A200
                  by_cases c21 : t165 = 6
                  · rw [if_pos c21] at H
                    have c21b0 : (t165 == 6) = true := beq_iff_eq.mpr c21
                    have c21b1 : (t165 != 6) = false := bne_eq_false_iff_eq.mpr c21
                    clear c21
                    have H' := Aside0.mk H
                    clear H
                    have hnb22 := NB164_151.out
                    have hnc22 := NB151_164.out
                    obtain ⟨hcz23_0, hcz23_1, hcz23_2⟩ := zc3 BK164
                    obtain ⟨hfz23_0, hfz23_1, hfz23_2⟩ := zf3 BK164
                    go_wp2_with (first | (go_at_call 11; (with_reducible refine (gate_Table_Free.calls k g151 t163 t165 t166 w _ ?side1 ?side2 A20.out).mono ?_); (case side1 => repeat (first | (with_reducible first | exact HI151.out | apply IsS53.alloc | apply IsS53.drewN | apply IsS53.drew | refine IsS53.putAt ?_ rfl rfl (by assumption) (by assumption) | apply IsS53.putAll | refine IsS53.far ?_ NB151_164.out _) | exact HI151.out)); (case side2 => repeat (first | (with_reducible first | exact HB.out | apply below_alloc | apply pw_below_drewN | apply below_drew1 | refine below_set ?_ (IsS53.ge HI151.out) | refine below_set ?_ GE164.out) | exact HB.out)); rintro e w24 ⟨rfl, hi, hb, hk⟩; replace BK164 := Aside0.mk (KeepBut.blk hk (g' := gb164) (o := .cells #[.string t159, .int .u16 t160, .int .u32 t161] 31 (0, 0)) zV NB164_151.out (by simp)); replace HI151 := Aside0.mk (hi); replace HB := Aside0.mk (hb); (try clear hb); (try clear hb2); (try clear hk); (try clear hi)))
                    go_meet
                    case rel => exact ⟨_, (true), (zE), H', ⟨by first | omega | exact Nat.le_refl _⟩, ⟨zK⟩, ⟨by repeat (first | (with_reducible first | exact HB.out | apply below_alloc | apply pw_below_drewN | apply below_drew1 | refine below_set ?_ (IsS53.ge HI151.out) | refine below_set ?_ GE164.out) | exact HB.out)⟩⟩
                  · rw [if_neg c21] at H
                    have c21b0 : (t165 == 6) = false := beq_eq_false_iff_ne.mpr c21
                    have c21b1 : (t165 != 6) = true := bne_iff_ne.mpr c21
                    have H' := Aside0.mk H
                    clear H
                    have hnb25 := NB164_151.out
                    have hnc25 := NB151_164.out
                    obtain ⟨hcz26_0, hcz26_1, hcz26_2⟩ := zc3 BK164
                    obtain ⟨hfz26_0, hfz26_1, hfz26_2⟩ := zf3 BK164
                    go_wp2_with (first | (go_at_call 11; (with_reducible refine (gate_Table_Free.calls k g151 t163 t165 t166 w _ ?side1 ?side2 A20.out).mono ?_); (case side1 => repeat (first | (with_reducible first | exact HI151.out | apply IsS53.alloc | apply IsS53.drewN | apply IsS53.drew | refine IsS53.putAt ?_ rfl rfl (by assumption) (by assumption) | apply IsS53.putAll | refine IsS53.far ?_ NB151_164.out _) | exact HI151.out)); (case side2 => repeat (first | (with_reducible first | exact HB.out | apply below_alloc | apply pw_below_drewN | apply below_drew1 | refine below_set ?_ (IsS53.ge HI151.out) | refine below_set ?_ GE164.out) | exact HB.out)); rintro e w27 ⟨rfl, hi, hb, hk⟩; replace BK164 := Aside0.mk (KeepBut.blk hk (g' := gb164) (o := .cells #[.string t159, .int .u16 t160, .int .u32 t161] 31 (0, 0)) zV NB164_151.out (by simp)); replace HI151 := Aside0.mk (hi); replace HB := Aside0.mk (hb); (try clear hb); (try clear hb2); (try clear hk); (try clear hi)))
                    go_meet
                    case rel => exact ⟨_, (false), (zE), H', ⟨by first | omega | exact Nat.le_refl _⟩, ⟨zK⟩, ⟨by repeat (first | (with_reducible first | exact HB.out | apply below_alloc | apply pw_below_drewN | apply below_drew1 | refine below_set ?_ (IsS53.ge HI151.out) | refine below_set ?_ GE164.out) | exact HB.out)⟩⟩
                · rw [if_neg c19] at H
                  have c19b0 : (t159.toList == ([109] : List UInt8) && (t160 == 1 && (t161 == 80))) = false := by simpa using c19
                  (try (have c19b1 : decide (t159.toList = ([109] : List UInt8) && (t160 == 1 && (t161 == 80))) = false := by simpa using c19))
                  (try (have c19b2 : (t159.toList == ([109] : List UInt8) && (t160 == 1 && (t161 == 80))) = false := by simpa using c19))
                  (try (have c19b3 : ¬ (t159.toList = ([109] : List UInt8) && (t160 == 1 && (t161 == 80))) := by simpa using c19))
                  clear c19
                  have H' := Aside0.mk H
                  clear H
                  have hnb28 := NB164_151.out
                  have hnc28 := NB151_164.out
                  obtain ⟨hcz29_0, hcz29_1, hcz29_2⟩ := zc3 BK164
                  obtain ⟨hfz29_0, hfz29_1, hfz29_2⟩ := zf3 BK164
                  go_wp2
                  go_meet
                  case rel => exact ⟨_, (false), (zE), H', ⟨by first | omega | exact Nat.le_refl _⟩, ⟨zV⟩, ⟨by repeat (first | (with_reducible first | exact HB.out | apply below_alloc | apply pw_below_drewN | apply below_drew1 | refine below_set ?_ (IsS53.ge HI151.out) | refine below_set ?_ GE164.out) | exact HB.out)⟩⟩
              · rw [if_neg c18] at H
                have c18b0 : (t162 == 0) = false := beq_eq_false_iff_ne.mpr c18
                have c18b1 : (t162 != 0) = true := bne_iff_ne.mpr c18
                have H' := Aside0.mk H
                clear H
                go_wp2
                go_meet
                case rel => exact ⟨_, (false), (zE), H', ⟨by first | omega | exact Nat.le_refl _⟩, ⟨zV⟩, ⟨by repeat (first | (with_reducible first | exact HB.out | apply below_alloc | apply pw_below_drewN | apply below_drew1 | refine below_set ?_ (IsS53.ge HI151.out) | refine below_set ?_ GE164.out) | exact HB.out)⟩⟩
            · rw [if_neg c17] at H
              have c17b0 : (t156 == 0) = false := beq_eq_false_iff_ne.mpr c17
              have c17b1 : (t156 != 0) = true := bne_iff_ne.mpr c17
              have H' := Aside0.mk H
              clear H
              go_wp2
              go_meet
              case rel => exact ⟨_, (false), (zE), H', ⟨by first | omega | exact Nat.le_refl _⟩, ⟨zV⟩, ⟨by repeat (first | (with_reducible first | exact HB.out | apply below_alloc | apply pw_below_drewN | apply below_drew1 | refine below_set ?_ (IsS53.ge HI151.out) | refine below_set ?_ GE164.out) | exact HB.out)⟩⟩
          · rw [if_neg c16] at H
            have c16b0 : (t153 == 0) = false := beq_eq_false_iff_ne.mpr c16
            have c16b1 : (t153 != 0) = true := bne_iff_ne.mpr c16
            have H' := Aside0.mk H
            clear H
            go_wp2
            go_meet
            case rel => exact ⟨_, (false), (zE), H', ⟨by first | omega | exact Nat.le_refl _⟩, ⟨zV⟩, ⟨by repeat (first | (with_reducible first | exact HB.out | apply below_alloc | apply pw_below_drewN | apply below_drew1 | refine below_set ?_ (IsS53.ge HI151.out) | refine below_set ?_ GE164.out) | exact HB.out)⟩⟩
        · rw [if_neg c15] at H
          have c15b0 : (t158 == 0) = false := beq_eq_false_iff_ne.mpr c15
          have c15b1 : (t158 != 0) = true := bne_iff_ne.mpr c15
          have H' := Aside0.mk H
          clear H
          go_wp2
          go_meet
          case rel => exact ⟨_, (false), (zE), H', ⟨by first | omega | exact Nat.le_refl _⟩, ⟨zV⟩, ⟨by repeat (first | (with_reducible first | exact HB.out | apply below_alloc | apply pw_below_drewN | apply below_drew1 | refine below_set ?_ (IsS53.ge HI151.out) | refine below_set ?_ GE164.out) | exact HB.out)⟩⟩
      · rw [if_neg c14] at H
        have c14b0 : (t155 == 1) = false := beq_eq_false_iff_ne.mpr c14
        have c14b1 : (t155 != 1) = true := bne_iff_ne.mpr c14
        have H' := Aside0.mk H
        clear H
        go_wp2
        go_meet
        case rel => exact ⟨_, (false), (zE), H', ⟨by first | omega | exact Nat.le_refl _⟩, ⟨zV⟩, ⟨by repeat (first | (with_reducible first | exact HB.out | apply below_alloc | apply pw_below_drewN | apply below_drew1 | refine below_set ?_ (IsS53.ge HI151.out) | refine below_set ?_ GE164.out) | exact HB.out)⟩⟩
    · rw [if_neg c13] at H
      have c13b0 : (t152 == 0) = false := beq_eq_false_iff_ne.mpr c13
      have c13b1 : (t152 != 0) = true := bne_iff_ne.mpr c13
      (first | rw [c13b0] | (simp only [i64_w, i32_w]; rw [c13b0]) | skip)
      have H' := Aside0.mk H
      clear H
      go_wp2
      go_meet
      case rel => exact ⟨_, (false), (zE), H', ⟨by first | omega | exact Nat.le_refl _⟩, ⟨zV⟩, ⟨by repeat (first | (with_reducible first | exact HB.out | apply below_alloc | apply pw_below_drewN | apply below_drew1 | refine below_set ?_ (IsS53.ge HI151.out) | refine below_set ?_ GE164.out) | exact HB.out)⟩⟩
  case rest =>
    clear HC5
    try clear c1
    try clear c2
    try clear p2
    try clear c8
    try clear c9
    try clear c11
    try clear c12
    try clear c13
    try clear c13b0
    try clear c13b1
    try clear c14
    try clear c14b0
    try clear c14b1
    try clear c15
    try clear c15b0
    try clear c15b1
    try clear c16
    try clear c16b0
    try clear c16b1
    try clear c17
    try clear c17b0
    try clear c17b1
    try clear c18
    try clear c18b0
    try clear c18b1
    try clear c19
    try clear c19b0
    try clear c19b1
    try clear c19b2
    try clear c21
    try clear c21b0
    try clear c21b1
    try clear c22
    try clear c25
    try clear c28
    try clear hcz12_0 hcz12_1 hcz12_2
    try clear hcz23_0 hcz23_1 hcz23_2
    try clear hcz26_0 hcz26_1 hcz26_2
    try clear hcz29_0 hcz29_1 hcz29_2
    try clear hfz12_0 hfz12_1 hfz12_2
    try clear hfz23_0 hfz23_1 hfz23_2
    try clear hfz26_0 hfz26_1 hfz26_2
    try clear hfz29_0 hfz29_1 hfz29_2
    obtain ⟨kq, x0_4, rfl, HA, HJ4, BK164, HB⟩ := hcut
    cases kq with
    | zero => exact absurd HA.out (by simp [budwoodlaw18_awake.j0])
    | succ kj4 =>
      have H := HA.out
      clear HA
      simp only [budwoodlaw18_awake.j0] at H
      obtain rfl := Option.some.inj H
      go_wp2
      go_ret
      exact ⟨zF, zB⟩

end Go.Proofs.YtlgmboaoemlnpaaDoor.P
