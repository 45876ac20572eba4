-- WRITTEN BY bud.py (a program of this session's over the kit's print). Not trusted: Lean checks it.
import Derived.Test.YtllkloneapjgjaaPx0
import Derived.Test.YtllkloneapjgjaaPxf
import Derived.Test.YtllkloneapjgjaaPx4
import Derived.Test.YtllkloneapjgjaaPx11
import Derived.Test.YtllkloneapjgjaaPx12
import Derived.Test.YtllkloneapjgjaaPx19
import Derived.Test.YtllkloneapjgjaaPx20
import Derived.Test.YtllkloneapjgjaaPx21
namespace Go.Proofs.Ytllkloneapjgjaa.P
open Go.RowKit Go.Proofs.YtllkloneapjgjaaW.PrintWords Go.Proofs.YtllkloneapjgjaaW.PrintLast Go.Proofs.YtllkloneapjgjaaW.PrintMore
attribute [local go_sem] max2_int min2_int max_two min_two max_three min_three max_four min_four   -- for this text's walks alone
set_option linter.unusedVariables false
set_option linter.unusedSimpArgs false

/-! ### budwoodlaw16_LinkImages: function 4 -/
set_option maxHeartbeats 8000000 in
set_option maxRecDepth 100000 in
theorem budwoodlaw16_LinkImages.calls (k : Nat) (a0_0 : ByteArray) (A0_1 : Option Addr) (c0_1 : Nat) (l0_1 : List ByteArray) (A0_2 : Option Addr) (c0_2 : Nat) (l0_2 : List ByteArray) (A0_3 : Option Addr) (c0_3 : Nat) (l0_3 : List Int) (A0_4 : Option Addr) (c0_4 : Nat) (l0_4 : List Int) (A0_5 : Option Addr) (c0_5 : Nat) (l0_5 : List (S53)) (a1_0 : Int) (a1_1 : Int) (A2 : Option Addr) (c2 : Nat) (l2 : List Int) (r : Bool) (w : World) (hr0_1 : Kd.C Kd.string w A0_1 l0_1.length l0_1) (hc0_1 : l0_1.length ≤ c0_1) (hr0_2 : Kd.C Kd.string w A0_2 l0_2.length l0_2) (hc0_2 : l0_2.length ≤ c0_2) (hr0_3 : Kd.C (Kd.int .u32) w A0_3 l0_3.length l0_3) (hc0_3 : l0_3.length ≤ c0_3) (hr0_4 : Kd.C (Kd.int .u32) w A0_4 l0_4.length l0_4) (hc0_4 : l0_4.length ≤ c0_4) (hr0_5 : Kd.C k53 w A0_5 l0_5.length l0_5) (hc0_5 : l0_5.length ≤ c0_5) (hr2 : Kd.C (Kd.int .u32) w A2 l2.length l2) (hc2 : l2.length ≤ c2) (h : budwoodlaw16_LinkImages.f k a0_0 l0_1 l0_2 l0_3 l0_4 l0_5 a1_0 a1_1 l2 = some r) :
    Calls Try.prog 4 #[.agg #[.string a0_0, .slice A0_1 l0_1.length c0_1, .slice A0_2 l0_2.length c0_2, .slice A0_3 l0_3.length c0_3, .slice A0_4 l0_4.length c0_4, .slice A0_5 l0_5.length c0_5], .agg #[.int .u32 a1_0, .int .u32 a1_1], .slice A2 l2.length c2] w fun e w' => e = .returned (.bool r) ∧ Below w.heap.size w w' := by
  have hu26 := Try.underlying26
  have hu29 := Try.underlying29
  have HR0_1 := Aside0.mk hr0_1
  have HC0_1 := Aside0.mk hc0_1
  clear hr0_1 hc0_1
  have HR0_2 := Aside0.mk hr0_2
  have HC0_2 := Aside0.mk hc0_2
  clear hr0_2 hc0_2
  have HR0_3 := Aside0.mk hr0_3
  have HC0_3 := Aside0.mk hc0_3
  clear hr0_3 hc0_3
  have HR0_4 := Aside0.mk hr0_4
  have HC0_4 := Aside0.mk hc0_4
  clear hr0_4 hc0_4
  have HR0_5 := Aside0.mk hr0_5
  have HC0_5 := Aside0.mk hc0_5
  clear hr0_5 hc0_5
  have HR2 := Aside0.mk hr2
  have HC2 := Aside0.mk hc2
  clear hr2 hc2
  have HB := Aside0.mk (Below.refl w.heap.size w)
  have H : ((budwoodref10_Size.f k a0_0 l0_1 l0_2 l0_3 l0_4 l0_5).bind fun t382 => (if t382 > 2000 then ((budwoodlaw16_awake.f k).bind fun t383 => (some t383)) else ((budwoodref10_Copy.f a0_0 l0_1 l0_2 l0_3 l0_4 l0_5).bind fun bt384 => ((link_Image.f k bt384.1 bt384.2.1 bt384.2.2.1 bt384.2.2.2.1 bt384.2.2.2.2.1 bt384.2.2.2.2.2 a1_0 a1_1 l2).bind fun bt401 => ((budwoodref16_Image.f k a0_0 l0_1 l0_2 l0_3 l0_4 l0_5 a1_0 a1_1 l2).bind fun bt405 => ((budwoodref10_SameWords.f k bt401.1 bt405.1).bind fun t409 => (if t409 = true then (budwoodlaw16_LinkImages.j0 k bt401.1 (bt401.2 == bt405.2) a0_0 l0_1 l0_2 l0_3 l0_4 l0_5 bt384.1 bt384.2.1 bt384.2.2.1 bt384.2.2.2.1 bt384.2.2.2.2.1 bt384.2.2.2.2.2) else (budwoodlaw16_LinkImages.j0 k bt401.1 false a0_0 l0_1 l0_2 l0_3 l0_4 l0_5 bt384.1 bt384.2.1 bt384.2.2.1 bt384.2.2.2.1 bt384.2.2.2.2.1 bt384.2.2.2.2.2)))))))) = some r := h
  clear h
  replace H := Option.bind_eq_some_iff.mp H
  obtain ⟨t382, A40, H⟩ := H
  replace H : (if t382 > 2000 then ((budwoodlaw16_awake.f k).bind fun t383 => (some t383)) else ((budwoodref10_Copy.f a0_0 l0_1 l0_2 l0_3 l0_4 l0_5).bind fun bt384 => ((link_Image.f k bt384.1 bt384.2.1 bt384.2.2.1 bt384.2.2.2.1 bt384.2.2.2.2.1 bt384.2.2.2.2.2 a1_0 a1_1 l2).bind fun bt401 => ((budwoodref16_Image.f k a0_0 l0_1 l0_2 l0_3 l0_4 l0_5 a1_0 a1_1 l2).bind fun bt405 => ((budwoodref10_SameWords.f k bt401.1 bt405.1).bind fun t409 => (if t409 = true then (budwoodlaw16_LinkImages.j0 k bt401.1 (bt401.2 == bt405.2) a0_0 l0_1 l0_2 l0_3 l0_4 l0_5 bt384.1 bt384.2.1 bt384.2.2.1 bt384.2.2.2.1 bt384.2.2.2.2.1 bt384.2.2.2.2.2) else (budwoodlaw16_LinkImages.j0 k bt401.1 false a0_0 l0_1 l0_2 l0_3 l0_4 l0_5 bt384.1 bt384.2.1 bt384.2.2.1 bt384.2.2.2.1 bt384.2.2.2.2.1 bt384.2.2.2.2.2))))))) = some r := H
  have A4 := Aside0.mk A40
  clear A40
  by_cases c5 : t382 > 2000
  · rw [if_pos c5] at H
    have c5b0 : decide (2000 < t382) = true := decide_eq_true c5
    clear c5
    replace H := Option.bind_eq_some_iff.mp H
    obtain ⟨t383, A60, H⟩ := H
    replace H : (some t383) = some r := H
    have A6 := Aside0.mk A60
    clear A60
    obtain rfl := Option.some.inj H
    go_enter Try.func4, Try.ntmps4
    go_wp2_with (first | ((with_reducible refine gate_dst (N := 3) rfl ?_); refine zX (N := 3) (cs := #[.string a0_0, .slice A0_1 l0_1.length c0_1, .slice A0_2 l0_2.length c0_2, .slice A0_3 l0_3.length c0_3, .slice A0_4 l0_4.length c0_4, .slice A0_5 l0_5.length c0_5]) (t := 26) ?_ ?_; (focus first | (go_simp; done) | (go_simp; rfl)); intro gb380 hg w7 hbox hb; have BK380 := Aside0.mk (hbox); have GW380 := Aside0.mk (zS hg : w.heap.size ≤ gb380); have GE380 := Aside0.mk (zS hg : w.heap.size ≤ gb380); replace HB := Aside0.mk (below_step zB hb); clear hb hbox hg) | ((with_reducible refine gate_dst (N := 4) rfl ?_); refine zX (N := 4) (cs := #[.int .u32 a1_0, .int .u32 a1_1]) (t := 29) ?_ ?_; (focus first | (go_simp; done) | (go_simp; rfl)); intro gb381 hg w8 hbox hb; have BK381 := Aside0.mk (hbox); have GW381 := Aside0.mk (zS hg : w.heap.size ≤ gb381); have GE381 := Aside0.mk (zS hg : w.heap.size ≤ gb381); have NB380_381 := Aside0.mk (zlt hg BK380 : gb380 ≠ gb381); have NB381_380 := Aside0.mk (zgt hg BK380 : gb381 ≠ gb380); replace BK380 := Aside0.mk (zL BK380 hb); replace HB := Aside0.mk (below_step zB hb); clear hb hbox hg; have hnb9 := NB380_381.out; have hnc9 := NB381_380.out; obtain ⟨hcz10_0, hcz10_1, hcz10_2, hcz10_3, hcz10_4, hcz10_5⟩ := zc6 BK380; obtain ⟨hfz10_0, hfz10_1, hfz10_2, hfz10_3, hfz10_4, hfz10_5⟩ := zf6 BK380) | ((with_reducible refine gate_callee (f := 5) rfl ?_); refine zG (some 15) Try.func5 #[.agg #[.string a0_0, .slice A0_1 l0_1.length c0_1, .slice A0_2 l0_2.length c0_2, .slice A0_3 l0_3.length c0_3, .slice A0_4 l0_4.length c0_4, .slice A0_5 l0_5.length c0_5]] ?_; (with_reducible refine (budwoodref10_Size.calls k a0_0 _ _ l0_1 _ _ l0_2 _ _ l0_3 _ _ l0_4 _ _ l0_5 t382 _ ?side1 ?side2 ?side3 ?side4 ?side5 ?side6 ?side7 ?side8 ?side9 ?side10 A4.out).mono ?_); (case side1 => exact zC); (case side2 => exact HC0_1.out); (case side3 => exact zC); (case side4 => exact HC0_2.out); (case side5 => exact zC); (case side6 => exact HC0_3.out); (case side7 => exact zC); (case side8 => exact HC0_4.out); (case side9 => exact zC); (case side10 => exact HC0_5.out); rintro e w11 ⟨rfl, hb⟩; refine ⟨_, rfl, ?_⟩; replace BK380 := Aside0.mk (zL BK380 hb); replace BK381 := Aside0.mk (zL BK381 hb); replace HB := Aside0.mk (below_step zB hb); (try clear hb); (try clear hb2); (try clear hk); (try clear hi)) | ((with_reducible refine gate_callee (f := 6) rfl ?_); refine zG (some 17) Try.func6 #[] ?_; (with_reducible refine (budwoodlaw16_awake.calls k  t383 _ A6.out).mono ?_); rintro e w12 ⟨rfl, hb⟩; refine ⟨_, rfl, ?_⟩; replace BK380 := Aside0.mk (zL BK380 hb); replace BK381 := Aside0.mk (zL BK381 hb); replace HB := Aside0.mk (below_step zB hb); (try clear hb); (try clear hb2); (try clear hk); (try clear hi)))
    go_ret
    exact ⟨zF, zB⟩
  · rw [if_neg c5] at H
    have c5b0 : decide (2000 < t382) = false := decide_eq_false c5
    clear c5
    replace H := Option.bind_eq_some_iff.mp H
    obtain ⟨⟨t384, t385, t388, t391, t394, t397⟩, A130, H⟩ := H
    replace H : ((link_Image.f k t384 t385 t388 t391 t394 t397 a1_0 a1_1 l2).bind fun bt401 => ((budwoodref16_Image.f k a0_0 l0_1 l0_2 l0_3 l0_4 l0_5 a1_0 a1_1 l2).bind fun bt405 => ((budwoodref10_SameWords.f k bt401.1 bt405.1).bind fun t409 => (if t409 = true then (budwoodlaw16_LinkImages.j0 k bt401.1 (bt401.2 == bt405.2) a0_0 l0_1 l0_2 l0_3 l0_4 l0_5 t384 t385 t388 t391 t394 t397) else (budwoodlaw16_LinkImages.j0 k bt401.1 false a0_0 l0_1 l0_2 l0_3 l0_4 l0_5 t384 t385 t388 t391 t394 t397))))) = some r := H
    have A13 := Aside0.mk A130
    clear A130
    replace H := Option.bind_eq_some_iff.mp H
    obtain ⟨⟨t401, t404⟩, A140, H⟩ := H
    replace H : ((budwoodref16_Image.f k a0_0 l0_1 l0_2 l0_3 l0_4 l0_5 a1_0 a1_1 l2).bind fun bt405 => ((budwoodref10_SameWords.f k t401 bt405.1).bind fun t409 => (if t409 = true then (budwoodlaw16_LinkImages.j0 k t401 (t404 == bt405.2) a0_0 l0_1 l0_2 l0_3 l0_4 l0_5 t384 t385 t388 t391 t394 t397) else (budwoodlaw16_LinkImages.j0 k t401 false a0_0 l0_1 l0_2 l0_3 l0_4 l0_5 t384 t385 t388 t391 t394 t397)))) = some r := H
    have A14 := Aside0.mk A140
    clear A140
    replace H := Option.bind_eq_some_iff.mp H
    obtain ⟨⟨t405, t408⟩, A150, H⟩ := H
    replace H : ((budwoodref10_SameWords.f k t401 t405).bind fun t409 => (if t409 = true then (budwoodlaw16_LinkImages.j0 k t401 (t404 == t408) a0_0 l0_1 l0_2 l0_3 l0_4 l0_5 t384 t385 t388 t391 t394 t397) else (budwoodlaw16_LinkImages.j0 k t401 false a0_0 l0_1 l0_2 l0_3 l0_4 l0_5 t384 t385 t388 t391 t394 t397))) = some r := H
    have A15 := Aside0.mk A150
    clear A150
    have HC16 := Aside0.mk H
    clear H
    go_enter Try.func4, Try.ntmps4
    go_upto_region 6 with (first | ((with_reducible refine gate_dst (N := 3) rfl ?_); refine zX (N := 3) (cs := #[.string a0_0, .slice A0_1 l0_1.length c0_1, .slice A0_2 l0_2.length c0_2, .slice A0_3 l0_3.length c0_3, .slice A0_4 l0_4.length c0_4, .slice A0_5 l0_5.length c0_5]) (t := 26) ?_ ?_; (focus first | (go_simp; done) | (go_simp; rfl)); intro gb380 hg w17 hbox hb; have BK380 := Aside0.mk (hbox); have GW380 := Aside0.mk (zS hg : w.heap.size ≤ gb380); have GE380 := Aside0.mk (zS hg : w.heap.size ≤ gb380); replace HB := Aside0.mk (below_step zB hb); clear hb hbox hg) | ((with_reducible refine gate_dst (N := 4) rfl ?_); refine zX (N := 4) (cs := #[.int .u32 a1_0, .int .u32 a1_1]) (t := 29) ?_ ?_; (focus first | (go_simp; done) | (go_simp; rfl)); intro gb381 hg w18 hbox hb; have BK381 := Aside0.mk (hbox); have GW381 := Aside0.mk (zS hg : w.heap.size ≤ gb381); have GE381 := Aside0.mk (zS hg : w.heap.size ≤ gb381); have NB380_381 := Aside0.mk (zlt hg BK380 : gb380 ≠ gb381); have NB381_380 := Aside0.mk (zgt hg BK380 : gb381 ≠ gb380); replace BK380 := Aside0.mk (zL BK380 hb); replace HB := Aside0.mk (below_step zB hb); clear hb hbox hg; have hnb19 := NB380_381.out; have hnc19 := NB381_380.out; obtain ⟨hcz20_0, hcz20_1, hcz20_2, hcz20_3, hcz20_4, hcz20_5⟩ := zc6 BK380; obtain ⟨hfz20_0, hfz20_1, hfz20_2, hfz20_3, hfz20_4, hfz20_5⟩ := zf6 BK380) | ((with_reducible refine gate_callee (f := 5) rfl ?_); refine zG (some 15) Try.func5 #[.agg #[.string a0_0, .slice A0_1 l0_1.length c0_1, .slice A0_2 l0_2.length c0_2, .slice A0_3 l0_3.length c0_3, .slice A0_4 l0_4.length c0_4, .slice A0_5 l0_5.length c0_5]] ?_; (with_reducible refine (budwoodref10_Size.calls k a0_0 _ _ l0_1 _ _ l0_2 _ _ l0_3 _ _ l0_4 _ _ l0_5 t382 _ ?side1 ?side2 ?side3 ?side4 ?side5 ?side6 ?side7 ?side8 ?side9 ?side10 A4.out).mono ?_); (case side1 => exact zC); (case side2 => exact HC0_1.out); (case side3 => exact zC); (case side4 => exact HC0_2.out); (case side5 => exact zC); (case side6 => exact HC0_3.out); (case side7 => exact zC); (case side8 => exact HC0_4.out); (case side9 => exact zC); (case side10 => exact HC0_5.out); rintro e w21 ⟨rfl, hb⟩; refine ⟨_, rfl, ?_⟩; replace BK380 := Aside0.mk (zL BK380 hb); replace BK381 := Aside0.mk (zL BK381 hb); replace HB := Aside0.mk (below_step zB hb); (try clear hb); (try clear hb2); (try clear hk); (try clear hi); obtain ⟨hcz22_0, hcz22_1, hcz22_2, hcz22_3, hcz22_4, hcz22_5⟩ := zc6 BK380; obtain ⟨hfz22_0, hfz22_1, hfz22_2, hfz22_3, hfz22_4, hfz22_5⟩ := zf6 BK380) | ((with_reducible refine gate_callee (f := 9) rfl ?_); refine zG (some 19) Try.func9 #[.agg #[.string a0_0, .slice A0_1 l0_1.length c0_1, .slice A0_2 l0_2.length c0_2, .slice A0_3 l0_3.length c0_3, .slice A0_4 l0_4.length c0_4, .slice A0_5 l0_5.length c0_5]] ?_; (with_reducible refine (budwoodref10_Copy.calls a0_0 _ _ l0_1 _ _ l0_2 _ _ l0_3 _ _ l0_4 _ _ l0_5 t384 t385 t388 t391 t394 t397 _ ?side1 ?side2 ?side3 ?side4 ?side5 ?side6 ?side7 ?side8 ?side9 ?side10 A13.out).mono ?_); (case side1 => exact zC); (case side2 => exact HC0_1.out); (case side3 => exact zC); (case side4 => exact HC0_2.out); (case side5 => exact zC); (case side6 => exact HC0_3.out); (case side7 => exact zC); (case side8 => exact HC0_4.out); (case side9 => exact zC); (case side10 => exact HC0_5.out); rintro e w23 ⟨v386, v389, v392, v395, v398, rfl, ho0, ho1, ho2, ho3, ho4, hb⟩; refine ⟨_, rfl, ?_⟩; have HO387 := Aside0.mk (Kd.R_lower ho0 (below_size zB)); have HO390 := Aside0.mk (Kd.R_lower ho1 (below_size zB)); have HO393 := Aside0.mk (Kd.R_lower ho2 (below_size zB)); have HO396 := Aside0.mk (Kd.R_lower ho3 (below_size zB)); have HO399 := Aside0.mk (Kd.R_lower ho4 (below_size zB)); replace BK380 := Aside0.mk (zL BK380 hb); replace BK381 := Aside0.mk (zL BK381 hb); replace HB := Aside0.mk (below_step zB hb); (try clear hb); (try clear hb2); (try clear hk); (try clear hi); (try clear ho0); (try clear ho1); (try clear ho2); (try clear ho3); (try clear ho4)) | ((with_reducible refine gate_dst (N := 7) rfl ?_); refine zX (N := 7) (cs := #[.string (⟨#[]⟩ : ByteArray), .slice none 0 0, .slice none 0 0, .slice none 0 0, .slice none 0 0, .slice none 0 0]) (t := 26) ?_ ?_; (focus first | (go_simp; done) | (go_simp; rfl)); intro gb400 hg w24 hbox hb; have BK400 := Aside0.mk (hbox); have GW400 := Aside0.mk (zS hg : w.heap.size ≤ gb400); have GE400 := Aside0.mk (zS hg : w.heap.size ≤ gb400); have NB380_400 := Aside0.mk (zlt hg BK380 : gb380 ≠ gb400); have NB400_380 := Aside0.mk (zgt hg BK380 : gb400 ≠ gb380); have NB381_400 := Aside0.mk (zlt hg BK381 : gb381 ≠ gb400); have NB400_381 := Aside0.mk (zgt hg BK381 : gb400 ≠ gb381); replace HO387 := Aside0.mk (Kd.R_below (zR HO387) hb); replace HO390 := Aside0.mk (Kd.R_below (zR HO390) hb); replace HO393 := Aside0.mk (Kd.R_below (zR HO393) hb); replace HO396 := Aside0.mk (Kd.R_below (zR HO396) hb); replace HO399 := Aside0.mk (Kd.R_below (zR HO399) hb); replace BK380 := Aside0.mk (zL BK380 hb); replace BK381 := Aside0.mk (zL BK381 hb); replace HB := Aside0.mk (below_step zB hb); clear hb hbox hg; have hnb25 := NB400_380.out; have hnc25 := NB380_400.out; have hnb26 := NB400_381.out; have hnc26 := NB381_400.out; obtain ⟨hcz27_0, hcz27_1, hcz27_2, hcz27_3, hcz27_4, hcz27_5⟩ := zc6 BK400; obtain ⟨hfz27_0, hfz27_1, hfz27_2, hfz27_3, hfz27_4, hfz27_5⟩ := zf6 BK400; obtain ⟨Ao28, co28, eo28⟩ := Kd.R_slice HO387.out; subst eo28; obtain ⟨Ao29, co29, eo29⟩ := Kd.R_slice HO390.out; subst eo29; obtain ⟨Ao30, co30, eo30⟩ := Kd.R_slice HO393.out; subst eo30; obtain ⟨Ao31, co31, eo31⟩ := Kd.R_slice HO396.out; subst eo31; obtain ⟨Ao32, co32, eo32⟩ := Kd.R_slice HO399.out; subst eo32; obtain ⟨hcz33_0, hcz33_1⟩ := zc2 BK381; obtain ⟨hfz33_0, hfz33_1⟩ := zf2 BK381) | ((with_reducible refine gate_callee (f := 10) rfl ?_); refine zG (some 24) Try.func10 #[.agg #[.string t384, .slice Ao28 t385.length co28, .slice Ao29 t388.length co29, .slice Ao30 t391.length co30, .slice Ao31 t394.length co31, .slice Ao32 t397.length co32], .agg #[.int .u32 a1_0, .int .u32 a1_1], .slice A2 l2.length c2] ?_; (with_reducible refine (link_Image.calls k t384 _ _ t385 _ _ t388 _ _ t391 _ _ t394 _ _ t397 a1_0 a1_1 _ _ l2 t401 t404 _ ?side1 ?side2 ?side3 ?side4 ?side5 ?side6 ?side7 ?side8 ?side9 ?side10 ?side11 ?side12 A14.out).mono ?_); (case side1 => refine (Kd.R_reads' (e := 9) (base := w.heap.size) (ok := fun k_ => some k_ ≠ (.slice Ao29 t388.length co29 : Value).ownBlock) (n := t385.length) (c := co28) ?_).2.2; exact (by (with_reducible repeat (first | apply Kd.R_alloc | apply Kd.R_drewN | apply Kd.R_drew)); exact (Kd.R_mono (Kd.R_far (p := ⟨gb400, 5, none⟩) (Kd.R_far (p := ⟨gb400, 4, none⟩) (Kd.R_far (p := ⟨gb400, 3, none⟩) (Kd.R_far (p := ⟨gb400, 2, none⟩) (Kd.R_far (p := ⟨gb400, 1, none⟩) (Kd.R_far (p := ⟨gb400, 0, none⟩) (Kd.R_types HO387.out BK400.out (by decide)) (fun _ hk => hk.2) (.string t384)) (fun _ hk => hk.2) (.slice Ao28 t385.length co28)) (fun _ hk => hk.2) (.slice Ao29 t388.length co29)) (fun _ hk => hk.2) (.slice Ao30 t391.length co30)) (fun _ hk => hk.2) (.slice Ao31 t394.length co31)) (fun _ hk => hk.2) (.slice Ao32 t397.length co32)) (fun _ h_ => h_.1)))); (case side2 => exact (Kd.R_reads' HO387.out).2.1); (case side3 => refine (Kd.R_reads' (e := 9) (base := w.heap.size) (ok := fun k_ => some k_ ≠ (.slice Ao28 t385.length co28 : Value).ownBlock) (n := t388.length) (c := co29) ?_).2.2; exact (by (with_reducible repeat (first | apply Kd.R_alloc | apply Kd.R_drewN | apply Kd.R_drew)); exact (Kd.R_mono (Kd.R_far (p := ⟨gb400, 5, none⟩) (Kd.R_far (p := ⟨gb400, 4, none⟩) (Kd.R_far (p := ⟨gb400, 3, none⟩) (Kd.R_far (p := ⟨gb400, 2, none⟩) (Kd.R_far (p := ⟨gb400, 1, none⟩) (Kd.R_far (p := ⟨gb400, 0, none⟩) (Kd.R_types HO390.out BK400.out (by decide)) (fun _ hk => hk.2) (.string t384)) (fun _ hk => hk.2) (.slice Ao28 t385.length co28)) (fun _ hk => hk.2) (.slice Ao29 t388.length co29)) (fun _ hk => hk.2) (.slice Ao30 t391.length co30)) (fun _ hk => hk.2) (.slice Ao31 t394.length co31)) (fun _ hk => hk.2) (.slice Ao32 t397.length co32)) (fun _ h_ => h_.1)))); (case side4 => exact (Kd.R_reads' HO390.out).2.1); (case side5 => refine (Kd.R_reads' (e := 27) (base := w.heap.size) (ok := fun k_ => some k_ ≠ (.slice Ao31 t394.length co31 : Value).ownBlock) (n := t391.length) (c := co30) ?_).2.2; exact (by (with_reducible repeat (first | apply Kd.R_alloc | apply Kd.R_drewN | apply Kd.R_drew)); exact (Kd.R_mono (Kd.R_far (p := ⟨gb400, 5, none⟩) (Kd.R_far (p := ⟨gb400, 4, none⟩) (Kd.R_far (p := ⟨gb400, 3, none⟩) (Kd.R_far (p := ⟨gb400, 2, none⟩) (Kd.R_far (p := ⟨gb400, 1, none⟩) (Kd.R_far (p := ⟨gb400, 0, none⟩) (Kd.R_types HO393.out BK400.out (by decide)) (fun _ hk => hk.2) (.string t384)) (fun _ hk => hk.2) (.slice Ao28 t385.length co28)) (fun _ hk => hk.2) (.slice Ao29 t388.length co29)) (fun _ hk => hk.2) (.slice Ao30 t391.length co30)) (fun _ hk => hk.2) (.slice Ao31 t394.length co31)) (fun _ hk => hk.2) (.slice Ao32 t397.length co32)) (fun _ h_ => h_.1)))); (case side6 => exact (Kd.R_reads' HO393.out).2.1); (case side7 => refine (Kd.R_reads' (e := 27) (base := w.heap.size) (ok := fun k_ => some k_ ≠ (.slice Ao30 t391.length co30 : Value).ownBlock) (n := t394.length) (c := co31) ?_).2.2; exact (by (with_reducible repeat (first | apply Kd.R_alloc | apply Kd.R_drewN | apply Kd.R_drew)); exact (Kd.R_mono (Kd.R_far (p := ⟨gb400, 5, none⟩) (Kd.R_far (p := ⟨gb400, 4, none⟩) (Kd.R_far (p := ⟨gb400, 3, none⟩) (Kd.R_far (p := ⟨gb400, 2, none⟩) (Kd.R_far (p := ⟨gb400, 1, none⟩) (Kd.R_far (p := ⟨gb400, 0, none⟩) (Kd.R_types HO396.out BK400.out (by decide)) (fun _ hk => hk.2) (.string t384)) (fun _ hk => hk.2) (.slice Ao28 t385.length co28)) (fun _ hk => hk.2) (.slice Ao29 t388.length co29)) (fun _ hk => hk.2) (.slice Ao30 t391.length co30)) (fun _ hk => hk.2) (.slice Ao31 t394.length co31)) (fun _ hk => hk.2) (.slice Ao32 t397.length co32)) (fun _ h_ => h_.1)))); (case side8 => exact (Kd.R_reads' HO396.out).2.1); (case side9 => refine (Kd.R_reads' (e := 53) (base := w.heap.size) (ok := fun k_ => True) (n := t397.length) (c := co32) ?_).2.2; exact (by (with_reducible repeat (first | apply Kd.R_alloc | apply Kd.R_drewN | apply Kd.R_drew)); exact (Kd.R_mono (Kd.R_far (p := ⟨gb400, 5, none⟩) (Kd.R_far (p := ⟨gb400, 4, none⟩) (Kd.R_far (p := ⟨gb400, 3, none⟩) (Kd.R_far (p := ⟨gb400, 2, none⟩) (Kd.R_far (p := ⟨gb400, 1, none⟩) (Kd.R_far (p := ⟨gb400, 0, none⟩) (Kd.R_types HO399.out BK400.out (by decide)) (fun _ hk => hk.2) (.string t384)) (fun _ hk => hk.2) (.slice Ao28 t385.length co28)) (fun _ hk => hk.2) (.slice Ao29 t388.length co29)) (fun _ hk => hk.2) (.slice Ao30 t391.length co30)) (fun _ hk => hk.2) (.slice Ao31 t394.length co31)) (fun _ hk => hk.2) (.slice Ao32 t397.length co32)) (fun _ h_ => h_.1)))); (case side10 => exact (Kd.R_reads' HO399.out).2.1); (case side11 => exact Kd.C_below HR2.out zB); (case side12 => exact HC2.out); rintro e w34 ⟨v402, rfl, ho0, hb⟩; refine ⟨_, rfl, ?_⟩; have HO403 := Aside0.mk (Kd.R_lower (Kd.R_new' (Kd.R_new' ho0 (Kd.R_lt (by (with_reducible repeat (first | apply Kd.R_alloc | apply Kd.R_drewN | apply Kd.R_drew)); exact (Kd.R_mono (Kd.R_far (p := ⟨gb400, 5, none⟩) (Kd.R_far (p := ⟨gb400, 4, none⟩) (Kd.R_far (p := ⟨gb400, 3, none⟩) (Kd.R_far (p := ⟨gb400, 2, none⟩) (Kd.R_far (p := ⟨gb400, 1, none⟩) (Kd.R_far (p := ⟨gb400, 0, none⟩) (Kd.R_types HO393.out BK400.out (by decide)) (fun _ hk => hk.2) (.string t384)) (fun _ hk => hk.2) (.slice Ao28 t385.length co28)) (fun _ hk => hk.2) (.slice Ao29 t388.length co29)) (fun _ hk => hk.2) (.slice Ao30 t391.length co30)) (fun _ hk => hk.2) (.slice Ao31 t394.length co31)) (fun _ hk => hk.2) (.slice Ao32 t397.length co32)) (fun _ h_ => h_.1))))) (Kd.R_lt (by (with_reducible repeat (first | apply Kd.R_alloc | apply Kd.R_drewN | apply Kd.R_drew)); exact (Kd.R_mono (Kd.R_far (p := ⟨gb400, 5, none⟩) (Kd.R_far (p := ⟨gb400, 4, none⟩) (Kd.R_far (p := ⟨gb400, 3, none⟩) (Kd.R_far (p := ⟨gb400, 2, none⟩) (Kd.R_far (p := ⟨gb400, 1, none⟩) (Kd.R_far (p := ⟨gb400, 0, none⟩) (Kd.R_types HO396.out BK400.out (by decide)) (fun _ hk => hk.2) (.string t384)) (fun _ hk => hk.2) (.slice Ao28 t385.length co28)) (fun _ hk => hk.2) (.slice Ao29 t388.length co29)) (fun _ hk => hk.2) (.slice Ao30 t391.length co30)) (fun _ hk => hk.2) (.slice Ao31 t394.length co31)) (fun _ hk => hk.2) (.slice Ao32 t397.length co32)) (fun _ h_ => h_.1))))) (below_size zB)); replace HO387 := Aside0.mk (Kd.R_below (by (with_reducible repeat (first | apply Kd.R_alloc | apply Kd.R_drewN | apply Kd.R_drew)); exact (Kd.R_mono (Kd.R_far (p := ⟨gb400, 5, none⟩) (Kd.R_far (p := ⟨gb400, 4, none⟩) (Kd.R_far (p := ⟨gb400, 3, none⟩) (Kd.R_far (p := ⟨gb400, 2, none⟩) (Kd.R_far (p := ⟨gb400, 1, none⟩) (Kd.R_far (p := ⟨gb400, 0, none⟩) (Kd.R_types HO387.out BK400.out (by decide)) (fun _ hk => hk.2) (.string t384)) (fun _ hk => hk.2) (.slice Ao28 t385.length co28)) (fun _ hk => hk.2) (.slice Ao29 t388.length co29)) (fun _ hk => hk.2) (.slice Ao30 t391.length co30)) (fun _ hk => hk.2) (.slice Ao31 t394.length co31)) (fun _ hk => hk.2) (.slice Ao32 t397.length co32)) (fun _ h_ => h_.1))) hb); replace HO390 := Aside0.mk (Kd.R_below (by (with_reducible repeat (first | apply Kd.R_alloc | apply Kd.R_drewN | apply Kd.R_drew)); exact (Kd.R_mono (Kd.R_far (p := ⟨gb400, 5, none⟩) (Kd.R_far (p := ⟨gb400, 4, none⟩) (Kd.R_far (p := ⟨gb400, 3, none⟩) (Kd.R_far (p := ⟨gb400, 2, none⟩) (Kd.R_far (p := ⟨gb400, 1, none⟩) (Kd.R_far (p := ⟨gb400, 0, none⟩) (Kd.R_types HO390.out BK400.out (by decide)) (fun _ hk => hk.2) (.string t384)) (fun _ hk => hk.2) (.slice Ao28 t385.length co28)) (fun _ hk => hk.2) (.slice Ao29 t388.length co29)) (fun _ hk => hk.2) (.slice Ao30 t391.length co30)) (fun _ hk => hk.2) (.slice Ao31 t394.length co31)) (fun _ hk => hk.2) (.slice Ao32 t397.length co32)) (fun _ h_ => h_.1))) hb); replace HO393 := Aside0.mk (Kd.R_elder' (by (with_reducible repeat (first | apply Kd.R_alloc | apply Kd.R_drewN | apply Kd.R_drew)); exact (Kd.R_mono (Kd.R_far (p := ⟨gb400, 5, none⟩) (Kd.R_far (p := ⟨gb400, 4, none⟩) (Kd.R_far (p := ⟨gb400, 3, none⟩) (Kd.R_far (p := ⟨gb400, 2, none⟩) (Kd.R_far (p := ⟨gb400, 1, none⟩) (Kd.R_far (p := ⟨gb400, 0, none⟩) (Kd.R_types HO393.out BK400.out (by decide)) (fun _ hk => hk.2) (.string t384)) (fun _ hk => hk.2) (.slice Ao28 t385.length co28)) (fun _ hk => hk.2) (.slice Ao29 t388.length co29)) (fun _ hk => hk.2) (.slice Ao30 t391.length co30)) (fun _ hk => hk.2) (.slice Ao31 t394.length co31)) (fun _ hk => hk.2) (.slice Ao32 t397.length co32)) (fun _ h_ => h_.1))) (Kd.R_base ho0) hb); replace HO396 := Aside0.mk (Kd.R_elder' (by (with_reducible repeat (first | apply Kd.R_alloc | apply Kd.R_drewN | apply Kd.R_drew)); exact (Kd.R_mono (Kd.R_far (p := ⟨gb400, 5, none⟩) (Kd.R_far (p := ⟨gb400, 4, none⟩) (Kd.R_far (p := ⟨gb400, 3, none⟩) (Kd.R_far (p := ⟨gb400, 2, none⟩) (Kd.R_far (p := ⟨gb400, 1, none⟩) (Kd.R_far (p := ⟨gb400, 0, none⟩) (Kd.R_types HO396.out BK400.out (by decide)) (fun _ hk => hk.2) (.string t384)) (fun _ hk => hk.2) (.slice Ao28 t385.length co28)) (fun _ hk => hk.2) (.slice Ao29 t388.length co29)) (fun _ hk => hk.2) (.slice Ao30 t391.length co30)) (fun _ hk => hk.2) (.slice Ao31 t394.length co31)) (fun _ hk => hk.2) (.slice Ao32 t397.length co32)) (fun _ h_ => h_.1))) (Kd.R_base ho0) hb); replace HO399 := Aside0.mk (Kd.R_below (by (with_reducible repeat (first | apply Kd.R_alloc | apply Kd.R_drewN | apply Kd.R_drew)); exact (Kd.R_mono (Kd.R_far (p := ⟨gb400, 5, none⟩) (Kd.R_far (p := ⟨gb400, 4, none⟩) (Kd.R_far (p := ⟨gb400, 3, none⟩) (Kd.R_far (p := ⟨gb400, 2, none⟩) (Kd.R_far (p := ⟨gb400, 1, none⟩) (Kd.R_far (p := ⟨gb400, 0, none⟩) (Kd.R_types HO399.out BK400.out (by decide)) (fun _ hk => hk.2) (.string t384)) (fun _ hk => hk.2) (.slice Ao28 t385.length co28)) (fun _ hk => hk.2) (.slice Ao29 t388.length co29)) (fun _ hk => hk.2) (.slice Ao30 t391.length co30)) (fun _ hk => hk.2) (.slice Ao31 t394.length co31)) (fun _ hk => hk.2) (.slice Ao32 t397.length co32)) (fun _ h_ => h_.1))) hb); replace BK380 := Aside0.mk (blk_below (g := gb380) (o := .cells #[.string a0_0, .slice A0_1 l0_1.length c0_1, .slice A0_2 l0_2.length c0_2, .slice A0_3 l0_3.length c0_3, .slice A0_4 l0_4.length c0_4, .slice A0_5 l0_5.length c0_5] 26 (0, 0)) zV hb); replace BK381 := Aside0.mk (blk_below (g := gb381) (o := .cells #[.int .u32 a1_0, .int .u32 a1_1] 29 (0, 0)) zV hb); replace BK400 := Aside0.mk (blk_below (g := gb400) (o := .cells #[.string t384, .slice Ao28 t385.length co28, .slice Ao29 t388.length co29, .slice Ao30 t391.length co30, .slice Ao31 t394.length co31, .slice Ao32 t397.length co32] 26 (0, 0)) zV hb); replace HB := Aside0.mk (below_step zB hb); (try clear hb); (try clear hb2); (try clear hk); (try clear hi); (try clear ho0); obtain ⟨hcz35_0, hcz35_1, hcz35_2, hcz35_3, hcz35_4, hcz35_5⟩ := zc6 BK380; obtain ⟨hfz35_0, hfz35_1, hfz35_2, hfz35_3, hfz35_4, hfz35_5⟩ := zf6 BK380; obtain ⟨hcz36_0, hcz36_1⟩ := zc2 BK381; obtain ⟨hfz36_0, hfz36_1⟩ := zf2 BK381) | ((with_reducible refine gate_callee (f := 11) rfl ?_); refine zG (some 31) Try.func11 #[.agg #[.string a0_0, .slice A0_1 l0_1.length c0_1, .slice A0_2 l0_2.length c0_2, .slice A0_3 l0_3.length c0_3, .slice A0_4 l0_4.length c0_4, .slice A0_5 l0_5.length c0_5], .agg #[.int .u32 a1_0, .int .u32 a1_1], .slice A2 l2.length c2] ?_; (with_reducible refine (budwoodref16_Image.calls k a0_0 _ _ l0_1 _ _ l0_2 _ _ l0_3 _ _ l0_4 _ _ l0_5 a1_0 a1_1 _ _ l2 t405 t408 _ ?side1 ?side2 ?side3 ?side4 ?side5 ?side6 ?side7 ?side8 ?side9 ?side10 ?side11 ?side12 A15.out).mono ?_); (case side1 => exact zC); (case side2 => exact HC0_1.out); (case side3 => exact zC); (case side4 => exact HC0_2.out); (case side5 => exact zC); (case side6 => exact HC0_3.out); (case side7 => exact zC); (case side8 => exact HC0_4.out); (case side9 => exact zC); (case side10 => exact HC0_5.out); (case side11 => exact zC); (case side12 => exact HC2.out); rintro e w37 ⟨v406, rfl, ho0, hb⟩; refine ⟨_, rfl, ?_⟩; have HO407 := Aside0.mk (Kd.R_lower (Kd.R_new' (Kd.R_new' (Kd.R_new' ho0 (Kd.R_lt (zR HO393))) (Kd.R_lt (zR HO396))) (Kd.R_lt (zR HO403))) (below_size zB)); replace HO387 := Aside0.mk (Kd.R_below (zR HO387) hb); replace HO390 := Aside0.mk (Kd.R_below (zR HO390) hb); replace HO393 := Aside0.mk (Kd.R_elder' (zR HO393) (Kd.R_base ho0) hb); replace HO396 := Aside0.mk (Kd.R_elder' (zR HO396) (Kd.R_base ho0) hb); replace HO399 := Aside0.mk (Kd.R_below (zR HO399) hb); replace HO403 := Aside0.mk (Kd.R_elder' (zR HO403) (Kd.R_base ho0) hb); replace BK380 := Aside0.mk (zL BK380 hb); replace BK381 := Aside0.mk (zL BK381 hb); replace BK400 := Aside0.mk (zL BK400 hb); replace HB := Aside0.mk (below_step zB hb); (try clear hb); (try clear hb2); (try clear hk); (try clear hi); (try clear ho0)))
    (try simp only [Act.put, List.setIfInBounds_toArray, List.set_cons_zero, List.set_cons_succ])
    go_cut [12] (fun v12 wc => ∃ (kq : Nat) (x12_15 : Bool), v12 = .bool x12_15 ∧ Aside0 (budwoodlaw16_LinkImages.j0 kq t401 x12_15 a0_0 l0_1 l0_2 l0_3 l0_4 l0_5 t384 t385 t388 t391 t394 t397 = some r) ∧ Aside0 (kq ≤ k) ∧ Aside0 (Kd.R (Kd.int .u32) 27 wc w.heap.size (fun k_ => some k_ ≠ ((.slice Ao30 t391.length co30) : Value).ownBlock ∧ some k_ ≠ ((.slice Ao31 t394.length co31) : Value).ownBlock) v402 t401) ∧ Aside0 (Kd.R Kd.string 9 wc w.heap.size (fun k_ => some k_ ≠ ((.slice Ao29 t388.length co29) : Value).ownBlock) (.slice Ao28 t385.length co28) t385) ∧ Aside0 (Kd.R Kd.string 9 wc w.heap.size (fun k_ => some k_ ≠ ((.slice Ao28 t385.length co28) : Value).ownBlock) (.slice Ao29 t388.length co29) t388) ∧ Aside0 (Kd.R (Kd.int .u32) 27 wc w.heap.size (fun k_ => some k_ ≠ (v402 : Value).ownBlock ∧ some k_ ≠ ((.slice Ao31 t394.length co31) : Value).ownBlock) (.slice Ao30 t391.length co30) t391) ∧ Aside0 (Kd.R (Kd.int .u32) 27 wc w.heap.size (fun k_ => some k_ ≠ (v402 : Value).ownBlock ∧ some k_ ≠ ((.slice Ao30 t391.length co30) : Value).ownBlock) (.slice Ao31 t394.length co31) t394) ∧ Aside0 (Kd.R k53 53 wc w.heap.size (fun _ => True) (.slice Ao32 t397.length co32) t397) ∧ Aside0 (wc.heap[gb380]? = some (.cells #[.string a0_0, (.slice A0_1 l0_1.length c0_1), (.slice A0_2 l0_2.length c0_2), (.slice A0_3 l0_3.length c0_3), (.slice A0_4 l0_4.length c0_4), (.slice A0_5 l0_5.length c0_5)] 26 (0, 0))) ∧ Aside0 (wc.heap[gb381]? = some (.cells #[.int .u32 a1_0, .int .u32 a1_1] 29 (0, 0))) ∧ Aside0 (wc.heap[gb400]? = some (.cells #[.string t384, (.slice Ao28 t385.length co28), (.slice Ao29 t388.length co29), (.slice Ao30 t391.length co30), (.slice Ao31 t394.length co31), (.slice Ao32 t397.length co32)] 26 (0, 0))) ∧ Aside0 (Below w.heap.size w wc))
    case first =>
      have H := HC16.out
      clear HC16
      replace H := Option.bind_eq_some_iff.mp H
      obtain ⟨t409, A380, H⟩ := H
      replace H : (if t409 = true then (budwoodlaw16_LinkImages.j0 k t401 (t404 == t408) a0_0 l0_1 l0_2 l0_3 l0_4 l0_5 t384 t385 t388 t391 t394 t397) else (budwoodlaw16_LinkImages.j0 k t401 false a0_0 l0_1 l0_2 l0_3 l0_4 l0_5 t384 t385 t388 t391 t394 t397)) = some r := H
      have A38 := Aside0.mk A380
      clear A380
      by_cases c39 : t409 = true
      · subst c39
        replace H := zT H
        have H' := Aside0.mk H
        clear H
        obtain ⟨Ao40, co40, eo40⟩ := Kd.R_slice HO403.out
        subst eo40
        obtain ⟨Ao41, co41, eo41⟩ := Kd.R_slice HO407.out
        subst eo41
        go_wp2_with (first | ((with_reducible refine gate_callee (f := 12) rfl ?_); refine zG (some 36) Try.func12 #[.slice Ao40 t401.length co40, .slice Ao41 t405.length co41] ?_; (with_reducible refine (budwoodref10_SameWords.calls k _ _ t401 _ _ t405 true _ ?side1 ?side2 ?side3 ?side4 A38.out).mono ?_); (case side1 => repeat (first | exact (Kd.R_reads' HO403.out).2.2 | (with_reducible refine Kd.C_alloc ?_ _) | (with_reducible refine Kd.C_drewN ?_ _) | (with_reducible refine Kd.C_drew ?_))); (case side2 => exact (Kd.R_reads' HO403.out).2.1); (case side3 => repeat (first | exact (Kd.R_reads' HO407.out).2.2 | (with_reducible refine Kd.C_alloc ?_ _) | (with_reducible refine Kd.C_drewN ?_ _) | (with_reducible refine Kd.C_drew ?_))); (case side4 => exact (Kd.R_reads' HO407.out).2.1); rintro e w' ⟨rfl, ⟨nd, rfl⟩⟩; refine ⟨_, rfl, ?_⟩))
        go_meet
        case rel => exact ⟨_, ((t404 == t408)), (zE), H', ⟨by first | omega | exact Nat.le_refl _⟩, ⟨by (with_reducible repeat (first | apply Kd.R_alloc | apply Kd.R_drewN | apply Kd.R_drew)); exact Kd.R_mono HO403.out (fun _ hk => ⟨hk.1.1.2, hk.1.2⟩)⟩, ⟨zR HO387⟩, ⟨zR HO390⟩, ⟨by (with_reducible repeat (first | apply Kd.R_alloc | apply Kd.R_drewN | apply Kd.R_drew)); exact Kd.R_mono HO393.out (fun _ hk => ⟨hk.1.2, hk.1.1⟩)⟩, ⟨by (with_reducible repeat (first | apply Kd.R_alloc | apply Kd.R_drewN | apply Kd.R_drew)); exact Kd.R_mono HO396.out (fun _ hk => ⟨hk.1.2, hk.1.1⟩)⟩, ⟨zR HO399⟩, ⟨zK⟩, ⟨zK⟩, ⟨zK⟩, ⟨zB⟩⟩
      · replace c39 := Bool.eq_false_iff.mpr c39
        subst c39
        replace H := zU H
        have H' := Aside0.mk H
        clear H
        obtain ⟨Ao42, co42, eo42⟩ := Kd.R_slice HO403.out
        subst eo42
        obtain ⟨Ao43, co43, eo43⟩ := Kd.R_slice HO407.out
        subst eo43
        go_wp2_with (first | ((with_reducible refine gate_callee (f := 12) rfl ?_); refine zG (some 36) Try.func12 #[.slice Ao42 t401.length co42, .slice Ao43 t405.length co43] ?_; (with_reducible refine (budwoodref10_SameWords.calls k _ _ t401 _ _ t405 false _ ?side1 ?side2 ?side3 ?side4 A38.out).mono ?_); (case side1 => repeat (first | exact (Kd.R_reads' HO403.out).2.2 | (with_reducible refine Kd.C_alloc ?_ _) | (with_reducible refine Kd.C_drewN ?_ _) | (with_reducible refine Kd.C_drew ?_))); (case side2 => exact (Kd.R_reads' HO403.out).2.1); (case side3 => repeat (first | exact (Kd.R_reads' HO407.out).2.2 | (with_reducible refine Kd.C_alloc ?_ _) | (with_reducible refine Kd.C_drewN ?_ _) | (with_reducible refine Kd.C_drew ?_))); (case side4 => exact (Kd.R_reads' HO407.out).2.1); rintro e w' ⟨rfl, ⟨nd, rfl⟩⟩; refine ⟨_, rfl, ?_⟩))
        go_meet
        case rel => exact ⟨_, (false), (zE), H', ⟨by first | omega | exact Nat.le_refl _⟩, ⟨by (with_reducible repeat (first | apply Kd.R_alloc | apply Kd.R_drewN | apply Kd.R_drew)); exact Kd.R_mono HO403.out (fun _ hk => ⟨hk.1.1.2, hk.1.2⟩)⟩, ⟨zR HO387⟩, ⟨zR HO390⟩, ⟨by (with_reducible repeat (first | apply Kd.R_alloc | apply Kd.R_drewN | apply Kd.R_drew)); exact Kd.R_mono HO393.out (fun _ hk => ⟨hk.1.2, hk.1.1⟩)⟩, ⟨by (with_reducible repeat (first | apply Kd.R_alloc | apply Kd.R_drewN | apply Kd.R_drew)); exact Kd.R_mono HO396.out (fun _ hk => ⟨hk.1.2, hk.1.1⟩)⟩, ⟨zR HO399⟩, ⟨zK⟩, ⟨zK⟩, ⟨zK⟩, ⟨zB⟩⟩
    case rest =>
      clear HC16
      try clear c1
      try clear c2
      try clear p2
      try clear c3
      try clear c4
      try clear c5
      try clear c5b0
      try clear c6
      try clear c9
      try clear c10
      try clear c11
      try clear c12
      try clear c19
      try clear c25
      try clear c26
      try clear c39
      try clear hcz10_0 hcz10_1 hcz10_2 hcz10_3 hcz10_4 hcz10_5
      try clear hcz20_0 hcz20_1 hcz20_2 hcz20_3 hcz20_4 hcz20_5
      try clear hcz22_0 hcz22_1 hcz22_2 hcz22_3 hcz22_4 hcz22_5
      try clear hcz27_0 hcz27_1 hcz27_2 hcz27_3 hcz27_4 hcz27_5
      try clear hcz33_0 hcz33_1
      try clear hcz35_0 hcz35_1 hcz35_2 hcz35_3 hcz35_4 hcz35_5
      try clear hcz36_0 hcz36_1
      try clear hfz10_0 hfz10_1 hfz10_2 hfz10_3 hfz10_4 hfz10_5
      try clear hfz20_0 hfz20_1 hfz20_2 hfz20_3 hfz20_4 hfz20_5
      try clear hfz22_0 hfz22_1 hfz22_2 hfz22_3 hfz22_4 hfz22_5
      try clear hfz27_0 hfz27_1 hfz27_2 hfz27_3 hfz27_4 hfz27_5
      try clear hfz33_0 hfz33_1
      try clear hfz35_0 hfz35_1 hfz35_2 hfz35_3 hfz35_4 hfz35_5
      try clear hfz36_0 hfz36_1
      obtain ⟨kq, x12_15, rfl, HA, HJ15, HO_8, HO_401001, HO_401002, HO_401003, HO_401004, HO_401005, BK380, BK381, BK400, HB⟩ := hcut
      cases kq with
      | zero => exact absurd HA.out (by simp [budwoodlaw16_LinkImages.j0])
      | succ kj15 =>
        have H := HA.out
        clear HA
        simp only [budwoodlaw16_LinkImages.j0] at H
        have H' := Aside0.mk H
        clear H
        go_wp2
        go_loopg [13] kj15 (fun kq v13 w' => ∃ (x8_2 : List Int) (x13_2 : Int), v13 = .int .i64 x13_2 ∧ Aside0 (budwoodlaw16_LinkImages.l0 kq x8_2 x12_15 x13_2 a0_0 l0_1 l0_2 l0_3 l0_4 l0_5 t384 t385 t388 t391 t394 t397 = some r) ∧ Aside0 (kq ≤ kj15) ∧ Aside0 (Kd.R (Kd.int .u32) 27 w' w.heap.size (fun k_ => some k_ ≠ ((.slice Ao30 t391.length co30) : Value).ownBlock ∧ some k_ ≠ ((.slice Ao31 t394.length co31) : Value).ownBlock) v402 x8_2) ∧ Aside0 (Kd.R Kd.string 9 w' w.heap.size (fun k_ => some k_ ≠ ((.slice Ao29 t388.length co29) : Value).ownBlock) (.slice Ao28 t385.length co28) t385) ∧ Aside0 (Kd.R Kd.string 9 w' w.heap.size (fun k_ => some k_ ≠ ((.slice Ao28 t385.length co28) : Value).ownBlock) (.slice Ao29 t388.length co29) t388) ∧ Aside0 (Kd.R (Kd.int .u32) 27 w' w.heap.size (fun k_ => some k_ ≠ (v402 : Value).ownBlock ∧ some k_ ≠ ((.slice Ao31 t394.length co31) : Value).ownBlock) (.slice Ao30 t391.length co30) t391) ∧ Aside0 (Kd.R (Kd.int .u32) 27 w' w.heap.size (fun k_ => some k_ ≠ (v402 : Value).ownBlock ∧ some k_ ≠ ((.slice Ao30 t391.length co30) : Value).ownBlock) (.slice Ao31 t394.length co31) t394) ∧ Aside0 (Kd.R k53 53 w' w.heap.size (fun _ => True) (.slice Ao32 t397.length co32) t397) ∧ Aside0 (w'.heap[gb380]? = some (.cells #[.string a0_0, (.slice A0_1 l0_1.length c0_1), (.slice A0_2 l0_2.length c0_2), (.slice A0_3 l0_3.length c0_3), (.slice A0_4 l0_4.length c0_4), (.slice A0_5 l0_5.length c0_5)] 26 (0, 0))) ∧ Aside0 (w'.heap[gb381]? = some (.cells #[.int .u32 a1_0, .int .u32 a1_1] 29 (0, 0))) ∧ Aside0 (w'.heap[gb400]? = some (.cells #[.string t384, (.slice Ao28 t385.length co28), (.slice Ao29 t388.length co29), (.slice Ao30 t391.length co30), (.slice Ao31 t394.length co31), (.slice Ao32 t397.length co32)] 26 (0, 0))) ∧ Aside0 (Below w.heap.size w w'))
        case atStart => exact ⟨(t401), (0), (zE), H', ⟨Nat.le_refl _⟩, ⟨zR HO_8⟩, ⟨zR HO_401001⟩, ⟨zR HO_401002⟩, ⟨zR HO_401003⟩, ⟨zR HO_401004⟩, ⟨zR HO_401005⟩, ⟨zK⟩, ⟨zK⟩, ⟨zK⟩, ⟨zB⟩⟩
        case round =>
          clear H'
          try clear c1
          try clear c2
          try clear p2
          try clear c3
          try clear c4
          try clear c5
          try clear c5b0
          try clear c6
          try clear c9
          try clear c10
          try clear c11
          try clear c12
          try clear c19
          try clear c25
          try clear c26
          try clear c39
          try clear hcz10_0 hcz10_1 hcz10_2 hcz10_3 hcz10_4 hcz10_5
          try clear hcz20_0 hcz20_1 hcz20_2 hcz20_3 hcz20_4 hcz20_5
          try clear hcz22_0 hcz22_1 hcz22_2 hcz22_3 hcz22_4 hcz22_5
          try clear hcz27_0 hcz27_1 hcz27_2 hcz27_3 hcz27_4 hcz27_5
          try clear hcz33_0 hcz33_1
          try clear hcz35_0 hcz35_1 hcz35_2 hcz35_3 hcz35_4 hcz35_5
          try clear hcz36_0 hcz36_1
          try clear hfz10_0 hfz10_1 hfz10_2 hfz10_3 hfz10_4 hfz10_5
          try clear hfz20_0 hfz20_1 hfz20_2 hfz20_3 hfz20_4 hfz20_5
          try clear hfz22_0 hfz22_1 hfz22_2 hfz22_3 hfz22_4 hfz22_5
          try clear hfz27_0 hfz27_1 hfz27_2 hfz27_3 hfz27_4 hfz27_5
          try clear hfz33_0 hfz33_1
          try clear hfz35_0 hfz35_1 hfz35_2 hfz35_3 hfz35_4 hfz35_5
          try clear hfz36_0 hfz36_1
          try clear p2
          obtain ⟨x8_2, x13_2, rfl, HA, HK2, HO_8, HO_401001, HO_401002, HO_401003, HO_401004, HO_401005, BK380, BK381, BK400, HB⟩ := hrel
          cases gk with
          | zero => exact absurd HA.out (by simp [budwoodlaw16_LinkImages.l0])
          | succ k2 =>
            have H := HA.out
            clear HA
            simp only [budwoodlaw16_LinkImages.l0] at H
            by_cases c44 : x13_2 < (x8_2.length : Int)
            · rw [if_pos c44] at H
              have c44b0 : decide (x13_2 < (x8_2.length : Int)) = true := decide_eq_true c44
              clear c44
              by_cases c45 : 0 ≤ x13_2
              · rw [if_pos c45] at H
                have c45b0 : decide (0 ≤ x13_2) = true := decide_eq_true c45
                clear c45
                obtain ⟨y411, hy411⟩ : ∃ y_ : List Int, y_ = (x8_2.set (x13_2 : Int).toNat (((rd x8_2 x13_2) + 1) % 4294967296)) := ⟨_, rfl⟩
                replace H : (budwoodlaw16_LinkImages.l0 k2 y411 x12_15 (wrap64 (x13_2 + 1)) a0_0 l0_1 l0_2 l0_3 l0_4 l0_5 t384 t385 t388 t391 t394 t397) = some r := by first | (rw [hy411]; with_reducible exact H) | (have H2_ := (Option.bind_some _ _).symm.trans H; rw [hy411]; with_reducible exact H2_) | (have H2_ := (Option.bind_some _ _).symm.trans H; with_reducible exact H2_) | with_reducible exact H | (rw [hy411]; exact H) | exact H
                have Ny411 := Aside0.mk hy411
                clear hy411
                have H' := Aside0.mk H
                clear H
                obtain ⟨Ao47, co47, eo47⟩ := Kd.R_slice HO_8.out
                subst eo47
                have p410 : 0 ≤ (x13_2 : Int) := of_decide_eq_true (by first | (with_reducible assumption) | assumption)
                have q410 : x13_2 < (x8_2.length : Int) := of_decide_eq_true (by first | (with_reducible assumption) | assumption)
                obtain ⟨ad410, e410, hx410_0⟩ := Kd.at_int (Kd.R_reads' HO_8.out).2.2 x13_2 p410 q410
                cases e410
                replace p410 := eq_true p410
                replace q410 := eq_true q410
                have p46 : 0 ≤ (x13_2 : Int) := of_decide_eq_true (by first | (with_reducible assumption) | assumption)
                have q46 : (x13_2 : Int) < ((x8_2.length : Int) : Int) := of_decide_eq_true (by first | (with_reducible assumption) | assumption)
                obtain ⟨go46, co46, eo46, gb46, gl46, cl46, HG46⟩ := Kd.R_form HO_8.out (by omega)
                (first | cases eo46 | (injection eo46 with ea_ en_ ec_; (first | subst ea_ | (injection ea_ with ea_; subst ea_)); subst ec_; clear en_))
                have GB46 := Aside0.mk gb46
                have GG46 := Aside0.mk HG46
                clear gb46 gl46 HG46
                (first | simp only [add_plain] at hx410_0 | skip)
                obtain ⟨hx46_0, hf46_0⟩ := Kd.R_celln 0 HO_8.out (x13_2 : Int) p46 q46
                replace p46 := eq_true p46
                replace q46 := eq_true q46
                have HP48 := Kd.R_putg HO_8.out (x13_2 : Int) (((rd x8_2 x13_2) + 1) % 4294967296)
                go_wp2_with (first | ((with_reducible refine gate_store (t := 27) (p := 53) rfl ?_); refine store_event (t := 27) (p := 53) (v := ?vo_w49) (w1 := (wr.setCell ⟨go46, (x13_2 : Int).toNat, none⟩ (.int .u32 (((rd x8_2 x13_2) + 1) % 4294967296)))) ?hg ?ho ?hn ?hr ?_; (case ho => rfl); (case hg => rfl); (case hn => rfl); (case hr => first | (go_simp; done) | (go_simp; rfl)); intro w49 hw; have hg : wr.grownBy w49 (some go46) := (by rw [hw]; exact HP48.2); have hp_ : Kd.R (Kd.int .u32) 27 w49 w.heap.size (fun k_ => some k_ ≠ (.slice Ao30 t391.length co30 : Value).ownBlock ∧ some k_ ≠ (.slice Ao31 t394.length co31 : Value).ownBlock) (.slice (some ⟨go46, 0, none⟩) x8_2.length co47) y411 := (by rw [hw, Ny411.out]; exact HP48.1); clear HP48; replace HO_401001 := Aside0.mk (Kd.R_over' (v := (.slice (some ⟨go46, 0, none⟩) x8_2.length co47)) (zR HO_401001) (Kd.R_typed HO_8.out) (by decide) hg); replace HO_401002 := Aside0.mk (Kd.R_over' (v := (.slice (some ⟨go46, 0, none⟩) x8_2.length co47)) (zR HO_401002) (Kd.R_typed HO_8.out) (by decide) hg); replace HO_401003 := Aside0.mk (Kd.R_after (v := (.slice (some ⟨go46, 0, none⟩) x8_2.length co47)) (v1 := (.slice (some ⟨go46, 0, none⟩) x8_2.length co47)) (ok := (fun k_ => some k_ ≠ (.slice Ao31 t394.length co31 : Value).ownBlock)) (by (with_reducible repeat (first | apply Kd.R_alloc | apply Kd.R_drewN | apply Kd.R_drew)); exact Kd.R_mono HO_401003.out (fun _ hk => ⟨hk.2, hk.1⟩)) hg (.inl rfl)); replace HO_401004 := Aside0.mk (Kd.R_after (v := (.slice (some ⟨go46, 0, none⟩) x8_2.length co47)) (v1 := (.slice (some ⟨go46, 0, none⟩) x8_2.length co47)) (ok := (fun k_ => some k_ ≠ (.slice Ao30 t391.length co30 : Value).ownBlock)) (by (with_reducible repeat (first | apply Kd.R_alloc | apply Kd.R_drewN | apply Kd.R_drew)); exact Kd.R_mono HO_401004.out (fun _ hk => ⟨hk.2, hk.1⟩)) hg (.inl rfl)); replace HO_401005 := Aside0.mk (Kd.R_over' (v := (.slice (some ⟨go46, 0, none⟩) x8_2.length co47)) (zR HO_401005) (Kd.R_typed HO_8.out) (by decide) hg); replace BK380 := Aside0.mk (blk_grown (g := gb380) (o := .cells #[.string a0_0, .slice A0_1 l0_1.length c0_1, .slice A0_2 l0_2.length c0_2, .slice A0_3 l0_3.length c0_3, .slice A0_4 l0_4.length c0_4, .slice A0_5 l0_5.length c0_5] 26 (0, 0)) zK hg (Kd.R_ne HO_8.out BK380.out (by decide))); replace BK381 := Aside0.mk (blk_grown (g := gb381) (o := .cells #[.int .u32 a1_0, .int .u32 a1_1] 29 (0, 0)) zK hg (Kd.R_ne HO_8.out BK381.out (by decide))); replace BK400 := Aside0.mk (blk_grown (g := gb400) (o := .cells #[.string t384, .slice Ao28 t385.length co28, .slice Ao29 t388.length co29, .slice Ao30 t391.length co30, .slice Ao31 t394.length co31, .slice Ao32 t397.length co32] 26 (0, 0)) zK hg (Kd.R_ne HO_8.out BK400.out (by decide))); replace HO_8 := Aside0.mk (hp_); replace HB := Aside0.mk ((by rw [hw]; exact below_set (HB.out) GB46.out : Below w.heap.size w w49)); clear hg hw hp_))
                go_roundg k2
                case measure => have := HJ15.out; have := HK2.out; omega
                case rel => exact ⟨(y411), (wrap64 (x13_2 + 1)), (zE), H', ⟨by have := HJ15.out; have := HK2.out; omega⟩, ⟨zR HO_8⟩, ⟨zR HO_401001⟩, ⟨zR HO_401002⟩, ⟨by (with_reducible repeat (first | apply Kd.R_alloc | apply Kd.R_drewN | apply Kd.R_drew)); exact Kd.R_mono HO_401003.out (fun _ hk => ⟨hk.2, hk.1⟩)⟩, ⟨by (with_reducible repeat (first | apply Kd.R_alloc | apply Kd.R_drewN | apply Kd.R_drew)); exact Kd.R_mono HO_401004.out (fun _ hk => ⟨hk.2, hk.1⟩)⟩, ⟨zR HO_401005⟩, ⟨zK⟩, ⟨zK⟩, ⟨zK⟩, ⟨zB⟩⟩
              · rw [if_neg c45] at H
                exact absurd H (by simp)
            · rw [if_neg c44] at H
              have c44b0 : decide (x13_2 < (x8_2.length : Int)) = false := decide_eq_false c44
              clear c44
              by_cases c50 : x12_15 = true
              · subst c50
                replace H := zT H
                replace H := Option.bind_eq_some_iff.mp H
                obtain ⟨t412, A510, H⟩ := H
                replace H : (if t412 = true then ((budwoodlaw16_awake.f k2).bind fun t413 => (some t413)) else (some false)) = some r := H
                have A51 := Aside0.mk A510
                clear A510
                by_cases c52 : t412 = true
                · subst c52
                  replace H := zT H
                  replace H := Option.bind_eq_some_iff.mp H
                  obtain ⟨t413, A530, H⟩ := H
                  replace H : (some t413) = some r := H
                  have A53 := Aside0.mk A530
                  clear A530
                  obtain rfl := Option.some.inj H
                  obtain ⟨Ao54, co54, eo54⟩ := Kd.R_slice HO_8.out
                  subst eo54
                  have hnb55 := NB400_380.out
                  have hnc55 := NB380_400.out
                  have hnb56 := NB400_381.out
                  have hnc56 := NB381_400.out
                  obtain ⟨hcz57_0, hcz57_1, hcz57_2, hcz57_3, hcz57_4, hcz57_5⟩ := zc6 BK400
                  obtain ⟨hfz57_0, hfz57_1, hfz57_2, hfz57_3, hfz57_4, hfz57_5⟩ := zf6 BK400
                  have hnb58 := NB380_381.out
                  have hnc58 := NB381_380.out
                  obtain ⟨hcz59_0, hcz59_1, hcz59_2, hcz59_3, hcz59_4, hcz59_5⟩ := zc6 BK380
                  obtain ⟨hfz59_0, hfz59_1, hfz59_2, hfz59_3, hfz59_4, hfz59_5⟩ := zf6 BK380
                  go_wp2_with (first | (go_at_call 13; (with_reducible refine (budwoodref10_Same.calls k2 t384 _ _ t385 _ _ t388 _ _ t391 _ _ t394 _ _ t397 a0_0 _ _ l0_1 _ _ l0_2 _ _ l0_3 _ _ l0_4 _ _ l0_5 true _ ?side1 ?side2 ?side3 ?side4 ?side5 ?side6 ?side7 ?side8 ?side9 ?side10 ?side11 ?side12 ?side13 ?side14 ?side15 ?side16 ?side17 ?side18 ?side19 ?side20 A51.out).mono ?_); (case side1 => repeat (first | exact (Kd.R_reads' HO_401001.out).2.2 | (with_reducible refine Kd.C_alloc ?_ _) | (with_reducible refine Kd.C_drewN ?_ _) | (with_reducible refine Kd.C_drew ?_))); (case side2 => exact (Kd.R_reads' HO_401001.out).2.1); (case side3 => repeat (first | exact (Kd.R_reads' HO_401002.out).2.2 | (with_reducible refine Kd.C_alloc ?_ _) | (with_reducible refine Kd.C_drewN ?_ _) | (with_reducible refine Kd.C_drew ?_))); (case side4 => exact (Kd.R_reads' HO_401002.out).2.1); (case side5 => repeat (first | exact (Kd.R_reads' HO_401003.out).2.2 | (with_reducible refine Kd.C_alloc ?_ _) | (with_reducible refine Kd.C_drewN ?_ _) | (with_reducible refine Kd.C_drew ?_))); (case side6 => exact (Kd.R_reads' HO_401003.out).2.1); (case side7 => repeat (first | exact (Kd.R_reads' HO_401004.out).2.2 | (with_reducible refine Kd.C_alloc ?_ _) | (with_reducible refine Kd.C_drewN ?_ _) | (with_reducible refine Kd.C_drew ?_))); (case side8 => exact (Kd.R_reads' HO_401004.out).2.1); (case side9 => repeat (first | exact (Kd.R_reads' HO_401005.out).2.2 | (with_reducible refine Kd.C_alloc ?_ _) | (with_reducible refine Kd.C_drewN ?_ _) | (with_reducible refine Kd.C_drew ?_))); (case side10 => exact (Kd.R_reads' HO_401005.out).2.1); (case side11 => exact zC); (case side12 => exact HC0_1.out); (case side13 => exact zC); (case side14 => exact HC0_2.out); (case side15 => exact zC); (case side16 => exact HC0_3.out); (case side17 => exact zC); (case side18 => exact HC0_4.out); (case side19 => exact zC); (case side20 => exact HC0_5.out); rintro e w60 ⟨rfl, hb⟩; replace HO_8 := Aside0.mk (Kd.R_below (zR HO_8) hb); replace HO_401001 := Aside0.mk (Kd.R_below (zR HO_401001) hb); replace HO_401002 := Aside0.mk (Kd.R_below (zR HO_401002) hb); replace HO_401003 := Aside0.mk (Kd.R_below (zR HO_401003) hb); replace HO_401004 := Aside0.mk (Kd.R_below (zR HO_401004) hb); replace HO_401005 := Aside0.mk (Kd.R_below (zR HO_401005) hb); replace BK380 := Aside0.mk (zL BK380 hb); replace BK381 := Aside0.mk (zL BK381 hb); replace BK400 := Aside0.mk (zL BK400 hb); replace HB := Aside0.mk (below_step zB hb); (try clear hb); (try clear hb2); (try clear hk); (try clear hi)) | (go_at_call 6; (with_reducible refine (budwoodlaw16_awake.calls k2  t413 _ A53.out).mono ?_); rintro e w61 ⟨rfl, hb⟩; replace HO_8 := Aside0.mk (Kd.R_below (zR HO_8) hb); replace HO_401001 := Aside0.mk (Kd.R_below (zR HO_401001) hb); replace HO_401002 := Aside0.mk (Kd.R_below (zR HO_401002) hb); replace HO_401003 := Aside0.mk (Kd.R_below (zR HO_401003) hb); replace HO_401004 := Aside0.mk (Kd.R_below (zR HO_401004) hb); replace HO_401005 := Aside0.mk (Kd.R_below (zR HO_401005) hb); replace BK380 := Aside0.mk (zL BK380 hb); replace BK381 := Aside0.mk (zL BK381 hb); replace BK400 := Aside0.mk (zL BK400 hb); replace HB := Aside0.mk (below_step zB hb); (try clear hb); (try clear hb2); (try clear hk); (try clear hi)))
                  go_ret
                  exact ⟨zF, zB⟩
                · replace c52 := Bool.eq_false_iff.mpr c52
                  subst c52
                  replace H := zU H
                  obtain rfl := Option.some.inj H
                  obtain ⟨Ao62, co62, eo62⟩ := Kd.R_slice HO_8.out
                  subst eo62
                  have hnb63 := NB400_380.out
                  have hnc63 := NB380_400.out
                  have hnb64 := NB400_381.out
                  have hnc64 := NB381_400.out
                  obtain ⟨hcz65_0, hcz65_1, hcz65_2, hcz65_3, hcz65_4, hcz65_5⟩ := zc6 BK400
                  obtain ⟨hfz65_0, hfz65_1, hfz65_2, hfz65_3, hfz65_4, hfz65_5⟩ := zf6 BK400
                  have hnb66 := NB380_381.out
                  have hnc66 := NB381_380.out
                  obtain ⟨hcz67_0, hcz67_1, hcz67_2, hcz67_3, hcz67_4, hcz67_5⟩ := zc6 BK380
                  obtain ⟨hfz67_0, hfz67_1, hfz67_2, hfz67_3, hfz67_4, hfz67_5⟩ := zf6 BK380
                  go_wp2_with (first | (go_at_call 13; (with_reducible refine (budwoodref10_Same.calls k2 t384 _ _ t385 _ _ t388 _ _ t391 _ _ t394 _ _ t397 a0_0 _ _ l0_1 _ _ l0_2 _ _ l0_3 _ _ l0_4 _ _ l0_5 false _ ?side1 ?side2 ?side3 ?side4 ?side5 ?side6 ?side7 ?side8 ?side9 ?side10 ?side11 ?side12 ?side13 ?side14 ?side15 ?side16 ?side17 ?side18 ?side19 ?side20 A51.out).mono ?_); (case side1 => repeat (first | exact (Kd.R_reads' HO_401001.out).2.2 | (with_reducible refine Kd.C_alloc ?_ _) | (with_reducible refine Kd.C_drewN ?_ _) | (with_reducible refine Kd.C_drew ?_))); (case side2 => exact (Kd.R_reads' HO_401001.out).2.1); (case side3 => repeat (first | exact (Kd.R_reads' HO_401002.out).2.2 | (with_reducible refine Kd.C_alloc ?_ _) | (with_reducible refine Kd.C_drewN ?_ _) | (with_reducible refine Kd.C_drew ?_))); (case side4 => exact (Kd.R_reads' HO_401002.out).2.1); (case side5 => repeat (first | exact (Kd.R_reads' HO_401003.out).2.2 | (with_reducible refine Kd.C_alloc ?_ _) | (with_reducible refine Kd.C_drewN ?_ _) | (with_reducible refine Kd.C_drew ?_))); (case side6 => exact (Kd.R_reads' HO_401003.out).2.1); (case side7 => repeat (first | exact (Kd.R_reads' HO_401004.out).2.2 | (with_reducible refine Kd.C_alloc ?_ _) | (with_reducible refine Kd.C_drewN ?_ _) | (with_reducible refine Kd.C_drew ?_))); (case side8 => exact (Kd.R_reads' HO_401004.out).2.1); (case side9 => repeat (first | exact (Kd.R_reads' HO_401005.out).2.2 | (with_reducible refine Kd.C_alloc ?_ _) | (with_reducible refine Kd.C_drewN ?_ _) | (with_reducible refine Kd.C_drew ?_))); (case side10 => exact (Kd.R_reads' HO_401005.out).2.1); (case side11 => exact zC); (case side12 => exact HC0_1.out); (case side13 => exact zC); (case side14 => exact HC0_2.out); (case side15 => exact zC); (case side16 => exact HC0_3.out); (case side17 => exact zC); (case side18 => exact HC0_4.out); (case side19 => exact zC); (case side20 => exact HC0_5.out); rintro e w68 ⟨rfl, hb⟩; replace HO_8 := Aside0.mk (Kd.R_below (zR HO_8) hb); replace HO_401001 := Aside0.mk (Kd.R_below (zR HO_401001) hb); replace HO_401002 := Aside0.mk (Kd.R_below (zR HO_401002) hb); replace HO_401003 := Aside0.mk (Kd.R_below (zR HO_401003) hb); replace HO_401004 := Aside0.mk (Kd.R_below (zR HO_401004) hb); replace HO_401005 := Aside0.mk (Kd.R_below (zR HO_401005) hb); replace BK380 := Aside0.mk (zL BK380 hb); replace BK381 := Aside0.mk (zL BK381 hb); replace BK400 := Aside0.mk (zL BK400 hb); replace HB := Aside0.mk (below_step zB hb); (try clear hb); (try clear hb2); (try clear hk); (try clear hi)))
                  go_ret
                  exact ⟨zF, zB⟩
              · replace c50 := Bool.eq_false_iff.mpr c50
                subst c50
                replace H := zU H
                obtain rfl := Option.some.inj H
                obtain ⟨Ao69, co69, eo69⟩ := Kd.R_slice HO_8.out
                subst eo69
                go_wp2
                go_ret
                exact ⟨zF, zB⟩

end Go.Proofs.Ytllkloneapjgjaa.P
