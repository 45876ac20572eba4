-- WRITTEN BY bud.py (a program of this session's over the kit's print). Not trusted: Lean checks it.
import Derived.Test.YtlgmboaoemlnpaaDoorPx0
import Derived.Test.YtlgmboaoemlnpaaDoorPxf
import Derived.Test.YtlgmboaoemlnpaaDoorPx2
import Derived.Test.YtlgmboaoemlnpaaDoorPx5
import Derived.Test.YtlgmboaoemlnpaaDoorPx6
import Derived.Test.YtlgmboaoemlnpaaDoorPx8
namespace Go.Proofs.YtlgmboaoemlnpaaDoor.P
open Go.RowKit Go.Proofs.YtlgmboaoemlnpaaDoorW.PrintWords Go.Proofs.YtlgmboaoemlnpaaDoorW.PrintLast Go.Proofs.YtlgmboaoemlnpaaDoorW.PrintMore
attribute [local go_sem] max2_int min2_int max_two min_two max_three min_three max_four min_four   -- for this text's walks alone
set_option linter.unusedVariables false
set_option linter.unusedSimpArgs false

/-! ### budwoodlaw18_GateFull: function 3 -/
set_option maxHeartbeats 8000000 in
set_option maxRecDepth 100000 in
theorem budwoodlaw18_GateFull.calls (k : Nat) (a0 : Int) (r : Bool) (w : World) (h : budwoodlaw18_GateFull.f k a0 = some r) (hG_ : Glob w) :
    Calls Tryd.prog 3 #[.int .u8 a0] w fun e w' => e = .returned (.bool r) ∧ Below w.heap.size w w' := by
  have hu31 := Tryd.underlying31
  have HB := Aside0.mk (Below.refl w.heap.size w)
  have H : ((gate_New.f).bind fun t167 => (budwoodlaw18_GateFull.l0 k a0 0 t167)) = some r := h
  clear h
  replace H := Option.bind_eq_some_iff.mp H
  obtain ⟨t167, A20, H⟩ := H
  replace H : (budwoodlaw18_GateFull.l0 k a0 0 t167) = some r := H
  have A2 := Aside0.mk A20
  clear A20
  have H' := Aside0.mk H
  clear H
  go_enter Tryd.func3, Tryd.ntmps3
  go_wp2_with (first | ((with_reducible refine gate_callee (f := 8) rfl ?_); refine zG (some 15) Tryd.func8 #[] ?_; (with_reducible refine (gate_New.calls  t167 w _ ?side1 A2.out).mono ?_); (case side1 => repeat (first | (with_reducible first | exact HB.out | apply below_alloc | apply pw_below_drewN | apply below_drew1) | exact HB.out)); rintro e w3 ⟨g168, rfl, hi, hb, hb2⟩; refine ⟨_, rfl, ?_⟩; have HI168 := Aside0.mk (hi); replace HB := Aside0.mk (hb); (try clear hb); (try clear hb2); (try clear hk); (try clear hi)))
  go_loopg [4] k (fun kq v4 w' => ∃ (x4_1 : Int) (x169000_1 : AR51), v4 = .int .i64 x4_1 ∧ Aside0 (budwoodlaw18_GateFull.l0 kq a0 x4_1 x169000_1 = some r) ∧ Aside0 (kq ≤ k) ∧ Aside0 (IsS53 w w' g168 x169000_1) ∧ Aside0 (Below w.heap.size w w'))
  case atStart => exact ⟨(0), (t167), (zE), H', ⟨Nat.le_refl _⟩, ⟨by repeat (first | (with_reducible first | exact HI168.out | apply IsS53.alloc | apply IsS53.drewN | apply IsS53.drew | refine IsS53.putAt ?_ rfl rfl (by assumption) (by assumption) | apply IsS53.putAll) | exact HI168.out)⟩, ⟨by repeat (first | (with_reducible first | exact HB.out | apply below_alloc | apply pw_below_drewN | apply below_drew1 | refine below_set ?_ (IsS53.ge HI168.out)) | exact HB.out)⟩⟩
  case round =>
    clear H'
    try clear p2
    try clear c3
    obtain ⟨x4_1, x169000_1, rfl, HA, HK1, HI168, HB⟩ := hrel
    cases gk with
    | zero => exact absurd HA.out (by simp [budwoodlaw18_GateFull.l0])
    | succ k1 =>
      have H := HA.out
      clear HA
      simp only [budwoodlaw18_GateFull.l0] at H
      by_cases c4 : x4_1 < 8
      · rw [if_pos c4] at H
        have c4b0 : decide (x4_1 < 8) = true := decide_eq_true c4
        clear c4
        obtain ⟨y169, hy169⟩ : ∃ y_ : List Int, y_ = (([(wrap64 (97 + x4_1)) % 256] : List Int)) := ⟨_, rfl⟩
        replace H : ((gate_Table_Open.f k1 x169000_1 (strOfNums y169) (IntKind.u16.wrap (wrap64 (1 + x4_1))) 80).bind fun bt172 => (if bt172.1 = x4_1 then (if bt172.2.1 = 0 then (budwoodlaw18_GateFull.l0 k1 a0 (wrap64 (x4_1 + 1)) bt172.2.2) else (some false)) else (some false))) = some r := by first | (rw [hy169]; with_reducible exact H) | (have H2_ := (Option.bind_some _ _).symm.trans H; rw [hy169]; with_reducible exact H2_) | (have H2_ := (Option.bind_some _ _).symm.trans H; with_reducible exact H2_) | with_reducible exact H | (rw [hy169]; exact H) | exact H
        have Ny169 := Aside0.mk hy169
        clear hy169
        replace H := Option.bind_eq_some_iff.mp H
        obtain ⟨⟨t172, t173, t174⟩, A50, H⟩ := H
        replace H : (if t172 = x4_1 then (if t173 = 0 then (budwoodlaw18_GateFull.l0 k1 a0 (wrap64 (x4_1 + 1)) t174) else (some false)) else (some false)) = some r := H
        have A5 := Aside0.mk A50
        clear A50
        by_cases c6 : t172 = x4_1
        · rw [if_pos c6] at H
          have c6b0 : (t172 == x4_1) = true := beq_iff_eq.mpr c6
          have c6b1 : (t172 != x4_1) = false := bne_eq_false_iff_eq.mpr c6
          clear c6
          by_cases c7 : t173 = 0
          · rw [if_pos c7] at H
            have c7b0 : (t173 == 0) = true := beq_iff_eq.mpr c7
            have c7b1 : (t173 != 0) = false := bne_eq_false_iff_eq.mpr c7
            clear c7
            have H' := Aside0.mk H
            clear H
            go_wp2_with (first | ((with_reducible refine gate_dst (N := 25) rfl ?_); refine Kd.R_lit (Kd.int .u8) _ 5 ?hg (N := 25) ?hd (xs := ([(wrap64 (97 + x4_1)) % 256] : List Int)) (inner := [.int .u8 ((wrap64 (97 + x4_1)) % 256)]) (ok := fun _ => True) (okp := fun _ => True) ?hr ?hp (fun _ hk => hk) trivial (Below.refl _ _) (Nat.le_refl _) (by simp) ?_; (case hd => rfl); (case hg => rfl); (case hr => first | (go_simp; done) | (go_simp; rfl)); (case hp => exact (Reps.one (show Kd.M (Kd.int .u8) _ _ _ ((wrap64 (97 + x4_1)) % 256) [.int .u8 ((wrap64 (97 + x4_1)) % 256)] from rfl) (Reps.none _ _))); intro v170 w8 ho9 hb hg_ hnew_; clear hg_ hnew_; (first | rw [← Ny169.out] at ho9 | (simp only [Int.reduceToNat] at ho9; rw [← Ny169.out] at ho9)); have HO171 := Aside0.mk (Kd.R_lower ho9 (below_size (by repeat (first | (with_reducible first | exact HB.out | apply below_alloc | apply pw_below_drewN | apply below_drew1 | refine below_set ?_ (IsS53.ge HI168.out)) | exact HB.out)))); replace HB := Aside0.mk (below_step (by repeat (first | (with_reducible first | exact HB.out | apply below_alloc | apply pw_below_drewN | apply below_drew1 | refine below_set ?_ (IsS53.ge HI168.out)) | exact HB.out)) hb); replace HI168 := Aside0.mk (IsS53.below (by repeat (first | (with_reducible first | exact HI168.out | apply IsS53.alloc | apply IsS53.drewN | apply IsS53.drew | refine IsS53.putAt ?_ rfl rfl (by assumption) (by assumption) | apply IsS53.putAll) | exact HI168.out)) hb); clear hb ho9; have hcv10 := own_string (P := Tryd.prog) Tryd.underlying27 Tryd.underlying5 Tryd.underlying9 (Kd.own_of_R HO171.out)) | ((with_reducible refine gate_callee (f := 9) rfl ?_); refine zG (some 31) Tryd.func9 #[.pointer (some ⟨g168, 0, none⟩), .agg #[.string (strOfNums y169), .int .u16 (IntKind.u16.wrap (wrap64 (1 + x4_1))), .int .u32 80]] ?_; (with_reducible refine (gate_Table_Open.calls k1 g168 x169000_1 (strOfNums y169) (IntKind.u16.wrap (wrap64 (1 + x4_1))) 80 t172 t173 t174 w _ ?side1 ?side2 A5.out ?side3).mono ?_); (case side1 => repeat (first | (with_reducible first | exact HI168.out | apply IsS53.alloc | apply IsS53.drewN | apply IsS53.drew | refine IsS53.putAt ?_ rfl rfl (by assumption) (by assumption) | apply IsS53.putAll) | exact HI168.out)); (case side2 => repeat (first | (with_reducible first | exact HB.out | apply below_alloc | apply pw_below_drewN | apply below_drew1 | refine below_set ?_ (IsS53.ge HI168.out)) | exact HB.out)); (case side3 => first | exact hG_ | exact hG_.g | (refine Glob.below (by first | exact hG_ | exact hG_.g) ?_; repeat (first | (with_reducible first | exact HB.out | apply below_alloc | apply pw_below_drewN | apply below_drew1 | refine below_set ?_ (IsS53.ge HI168.out)) | exact HB.out))); rintro e w11 ⟨rfl, hi, hb, hk⟩; refine ⟨_, rfl, ?_⟩; replace HO171 := Aside0.mk (Kd.R_mono (Kd.R_keep (IsS53.apart (show IsS53 w _ g168 x169000_1 from by repeat (first | (with_reducible first | exact HI168.out | apply IsS53.alloc | apply IsS53.drewN | apply IsS53.drew | refine IsS53.putAt ?_ rfl rfl (by assumption) (by assumption) | apply IsS53.putAll) | exact HI168.out)) (zR HO171) (by decide)) hk (fun _ h => h.2)) (fun _ h => h.1)); replace HI168 := Aside0.mk (hi); replace HB := Aside0.mk (hb); (try clear hb); (try clear hb2); (try clear hk); (try clear hi)))
            go_roundg k1
            case measure => have := HK1.out; omega
            case rel => exact ⟨(wrap64 (x4_1 + 1)), (t174), (zE), H', ⟨by have := HK1.out; omega⟩, ⟨by repeat (first | (with_reducible first | exact HI168.out | apply IsS53.alloc | apply IsS53.drewN | apply IsS53.drew | refine IsS53.putAt ?_ rfl rfl (by assumption) (by assumption) | apply IsS53.putAll) | exact HI168.out)⟩, ⟨by repeat (first | (with_reducible first | exact HB.out | apply below_alloc | apply pw_below_drewN | apply below_drew1 | refine below_set ?_ (IsS53.ge HI168.out)) | exact HB.out)⟩⟩
          · rw [if_neg c7] at H
            have c7b0 : (t173 == 0) = false := beq_eq_false_iff_ne.mpr c7
            have c7b1 : (t173 != 0) = true := bne_iff_ne.mpr c7
            obtain rfl := Option.some.inj H
            go_wp2_with (first | ((with_reducible refine gate_dst (N := 25) rfl ?_); refine Kd.R_lit (Kd.int .u8) _ 5 ?hg (N := 25) ?hd (xs := ([(wrap64 (97 + x4_1)) % 256] : List Int)) (inner := [.int .u8 ((wrap64 (97 + x4_1)) % 256)]) (ok := fun _ => True) (okp := fun _ => True) ?hr ?hp (fun _ hk => hk) trivial (Below.refl _ _) (Nat.le_refl _) (by simp) ?_; (case hd => rfl); (case hg => rfl); (case hr => first | (go_simp; done) | (go_simp; rfl)); (case hp => exact (Reps.one (show Kd.M (Kd.int .u8) _ _ _ ((wrap64 (97 + x4_1)) % 256) [.int .u8 ((wrap64 (97 + x4_1)) % 256)] from rfl) (Reps.none _ _))); intro v170 w12 ho13 hb hg_ hnew_; clear hg_ hnew_; (first | rw [← Ny169.out] at ho13 | (simp only [Int.reduceToNat] at ho13; rw [← Ny169.out] at ho13)); have HO171 := Aside0.mk (Kd.R_lower ho13 (below_size (by repeat (first | (with_reducible first | exact HB.out | apply below_alloc | apply pw_below_drewN | apply below_drew1 | refine below_set ?_ (IsS53.ge HI168.out)) | exact HB.out)))); replace HB := Aside0.mk (below_step (by repeat (first | (with_reducible first | exact HB.out | apply below_alloc | apply pw_below_drewN | apply below_drew1 | refine below_set ?_ (IsS53.ge HI168.out)) | exact HB.out)) hb); replace HI168 := Aside0.mk (IsS53.below (by repeat (first | (with_reducible first | exact HI168.out | apply IsS53.alloc | apply IsS53.drewN | apply IsS53.drew | refine IsS53.putAt ?_ rfl rfl (by assumption) (by assumption) | apply IsS53.putAll) | exact HI168.out)) hb); clear hb ho13; have hcv14 := own_string (P := Tryd.prog) Tryd.underlying27 Tryd.underlying5 Tryd.underlying9 (Kd.own_of_R HO171.out)) | ((with_reducible refine gate_callee (f := 9) rfl ?_); refine zG (some 31) Tryd.func9 #[.pointer (some ⟨g168, 0, none⟩), .agg #[.string (strOfNums y169), .int .u16 (IntKind.u16.wrap (wrap64 (1 + x4_1))), .int .u32 80]] ?_; (with_reducible refine (gate_Table_Open.calls k1 g168 x169000_1 (strOfNums y169) (IntKind.u16.wrap (wrap64 (1 + x4_1))) 80 t172 t173 t174 w _ ?side1 ?side2 A5.out ?side3).mono ?_); (case side1 => repeat (first | (with_reducible first | exact HI168.out | apply IsS53.alloc | apply IsS53.drewN | apply IsS53.drew | refine IsS53.putAt ?_ rfl rfl (by assumption) (by assumption) | apply IsS53.putAll) | exact HI168.out)); (case side2 => repeat (first | (with_reducible first | exact HB.out | apply below_alloc | apply pw_below_drewN | apply below_drew1 | refine below_set ?_ (IsS53.ge HI168.out)) | exact HB.out)); (case side3 => first | exact hG_ | exact hG_.g | (refine Glob.below (by first | exact hG_ | exact hG_.g) ?_; repeat (first | (with_reducible first | exact HB.out | apply below_alloc | apply pw_below_drewN | apply below_drew1 | refine below_set ?_ (IsS53.ge HI168.out)) | exact HB.out))); rintro e w15 ⟨rfl, hi, hb, hk⟩; refine ⟨_, rfl, ?_⟩; replace HO171 := Aside0.mk (Kd.R_mono (Kd.R_keep (IsS53.apart (show IsS53 w _ g168 x169000_1 from by repeat (first | (with_reducible first | exact HI168.out | apply IsS53.alloc | apply IsS53.drewN | apply IsS53.drew | refine IsS53.putAt ?_ rfl rfl (by assumption) (by assumption) | apply IsS53.putAll) | exact HI168.out)) (zR HO171) (by decide)) hk (fun _ h => h.2)) (fun _ h => h.1)); replace HI168 := Aside0.mk (hi); replace HB := Aside0.mk (hb); (try clear hb); (try clear hb2); (try clear hk); (try clear hi)))
            go_ret
            exact ⟨zF, by repeat (first | (with_reducible first | exact HB.out | apply below_alloc | apply pw_below_drewN | apply below_drew1 | refine below_set ?_ (IsS53.ge HI168.out)) | exact HB.out)⟩
        · rw [if_neg c6] at H
          have c6b0 : (t172 == x4_1) = false := beq_eq_false_iff_ne.mpr c6
          have c6b1 : (t172 != x4_1) = true := bne_iff_ne.mpr c6
          obtain rfl := Option.some.inj H
          go_wp2_with (first | ((with_reducible refine gate_dst (N := 25) rfl ?_); refine Kd.R_lit (Kd.int .u8) _ 5 ?hg (N := 25) ?hd (xs := ([(wrap64 (97 + x4_1)) % 256] : List Int)) (inner := [.int .u8 ((wrap64 (97 + x4_1)) % 256)]) (ok := fun _ => True) (okp := fun _ => True) ?hr ?hp (fun _ hk => hk) trivial (Below.refl _ _) (Nat.le_refl _) (by simp) ?_; (case hd => rfl); (case hg => rfl); (case hr => first | (go_simp; done) | (go_simp; rfl)); (case hp => exact (Reps.one (show Kd.M (Kd.int .u8) _ _ _ ((wrap64 (97 + x4_1)) % 256) [.int .u8 ((wrap64 (97 + x4_1)) % 256)] from rfl) (Reps.none _ _))); intro v170 w16 ho17 hb hg_ hnew_; clear hg_ hnew_; (first | rw [← Ny169.out] at ho17 | (simp only [Int.reduceToNat] at ho17; rw [← Ny169.out] at ho17)); have HO171 := Aside0.mk (Kd.R_lower ho17 (below_size (by repeat (first | (with_reducible first | exact HB.out | apply below_alloc | apply pw_below_drewN | apply below_drew1 | refine below_set ?_ (IsS53.ge HI168.out)) | exact HB.out)))); replace HB := Aside0.mk (below_step (by repeat (first | (with_reducible first | exact HB.out | apply below_alloc | apply pw_below_drewN | apply below_drew1 | refine below_set ?_ (IsS53.ge HI168.out)) | exact HB.out)) hb); replace HI168 := Aside0.mk (IsS53.below (by repeat (first | (with_reducible first | exact HI168.out | apply IsS53.alloc | apply IsS53.drewN | apply IsS53.drew | refine IsS53.putAt ?_ rfl rfl (by assumption) (by assumption) | apply IsS53.putAll) | exact HI168.out)) hb); clear hb ho17; have hcv18 := own_string (P := Tryd.prog) Tryd.underlying27 Tryd.underlying5 Tryd.underlying9 (Kd.own_of_R HO171.out)) | ((with_reducible refine gate_callee (f := 9) rfl ?_); refine zG (some 31) Tryd.func9 #[.pointer (some ⟨g168, 0, none⟩), .agg #[.string (strOfNums y169), .int .u16 (IntKind.u16.wrap (wrap64 (1 + x4_1))), .int .u32 80]] ?_; (with_reducible refine (gate_Table_Open.calls k1 g168 x169000_1 (strOfNums y169) (IntKind.u16.wrap (wrap64 (1 + x4_1))) 80 t172 t173 t174 w _ ?side1 ?side2 A5.out ?side3).mono ?_); (case side1 => repeat (first | (with_reducible first | exact HI168.out | apply IsS53.alloc | apply IsS53.drewN | apply IsS53.drew | refine IsS53.putAt ?_ rfl rfl (by assumption) (by assumption) | apply IsS53.putAll) | exact HI168.out)); (case side2 => repeat (first | (with_reducible first | exact HB.out | apply below_alloc | apply pw_below_drewN | apply below_drew1 | refine below_set ?_ (IsS53.ge HI168.out)) | exact HB.out)); (case side3 => first | exact hG_ | exact hG_.g | (refine Glob.below (by first | exact hG_ | exact hG_.g) ?_; repeat (first | (with_reducible first | exact HB.out | apply below_alloc | apply pw_below_drewN | apply below_drew1 | refine below_set ?_ (IsS53.ge HI168.out)) | exact HB.out))); rintro e w19 ⟨rfl, hi, hb, hk⟩; refine ⟨_, rfl, ?_⟩; replace HO171 := Aside0.mk (Kd.R_mono (Kd.R_keep (IsS53.apart (show IsS53 w _ g168 x169000_1 from by repeat (first | (with_reducible first | exact HI168.out | apply IsS53.alloc | apply IsS53.drewN | apply IsS53.drew | refine IsS53.putAt ?_ rfl rfl (by assumption) (by assumption) | apply IsS53.putAll) | exact HI168.out)) (zR HO171) (by decide)) hk (fun _ h => h.2)) (fun _ h => h.1)); replace HI168 := Aside0.mk (hi); replace HB := Aside0.mk (hb); (try clear hb); (try clear hb2); (try clear hk); (try clear hi)))
          go_ret
          exact ⟨zF, by repeat (first | (with_reducible first | exact HB.out | apply below_alloc | apply pw_below_drewN | apply below_drew1 | refine below_set ?_ (IsS53.ge HI168.out)) | exact HB.out)⟩
      · rw [if_neg c4] at H
        have c4b0 : decide (x4_1 < 8) = false := decide_eq_false c4
        clear c4
        replace H := Option.bind_eq_some_iff.mp H
        obtain ⟨⟨t175, t176, t177⟩, A200, H⟩ := H
        replace H : ((gate_Table_Close.f t177 (strOfNums (([(wrap64 (97 + (Int.tmod (wrap64 (a0)) 8))) % 256] : List Int)))).bind fun bt181 => ((gate_Table_Open.f k1 bt181.2.2.2.2.2 (⟨#[122]⟩ : ByteArray) 99 80).bind fun bt188 => (budwoodlaw18_GateFull.j1 k1 t176 (Int.tmod (wrap64 (a0)) 8) bt181.1 bt181.2.2.2.2.1 bt188.1 bt188.2.1 bt188.2.2 bt181.2.1 bt181.2.2.1 bt181.2.2.2.1))) = some r := H
        have A20 := Aside0.mk A200
        clear A200
        obtain ⟨y178, hy178⟩ : ∃ y_ : List Int, y_ = (([(wrap64 (97 + (Int.tmod (wrap64 (a0)) 8))) % 256] : List Int)) := ⟨_, rfl⟩
        replace H : ((gate_Table_Close.f t177 (strOfNums y178)).bind fun bt181 => ((gate_Table_Open.f k1 bt181.2.2.2.2.2 (⟨#[122]⟩ : ByteArray) 99 80).bind fun bt188 => (budwoodlaw18_GateFull.j1 k1 t176 (Int.tmod (wrap64 (a0)) 8) bt181.1 bt181.2.2.2.2.1 bt188.1 bt188.2.1 bt188.2.2 bt181.2.1 bt181.2.2.1 bt181.2.2.2.1))) = some r := by first | (rw [hy178]; with_reducible exact H) | (have H2_ := (Option.bind_some _ _).symm.trans H; rw [hy178]; with_reducible exact H2_) | (have H2_ := (Option.bind_some _ _).symm.trans H; with_reducible exact H2_) | with_reducible exact H | (rw [hy178]; exact H) | exact H
        have Ny178 := Aside0.mk hy178
        clear hy178
        replace H := Option.bind_eq_some_iff.mp H
        obtain ⟨⟨t181, t182, t183, t184, t185, t186⟩, A210, H⟩ := H
        replace H : ((gate_Table_Open.f k1 t186 (⟨#[122]⟩ : ByteArray) 99 80).bind fun bt188 => (budwoodlaw18_GateFull.j1 k1 t176 (Int.tmod (wrap64 (a0)) 8) t181 t185 bt188.1 bt188.2.1 bt188.2.2 t182 t183 t184)) = some r := H
        have A21 := Aside0.mk A210
        clear A210
        have HC22 := Aside0.mk H
        clear H
        go_upto_region 11 with (first | ((with_reducible refine gate_callee (f := 9) rfl ?_); refine zG (some 44) Tryd.func9 #[.pointer (some ⟨g168, 0, none⟩), .agg #[.string (⟨#[122]⟩ : ByteArray), .int .u16 99, .int .u32 80]] ?_; (with_reducible refine (gate_Table_Open.calls k1 g168 x169000_1 (⟨#[122]⟩ : ByteArray) 99 80 t175 t176 t177 w _ ?side1 ?side2 A20.out ?side3).mono ?_); (case side1 => repeat (first | (with_reducible first | exact HI168.out | apply IsS53.alloc | apply IsS53.drewN | apply IsS53.drew | refine IsS53.putAt ?_ rfl rfl (by assumption) (by assumption) | apply IsS53.putAll) | exact HI168.out)); (case side2 => repeat (first | (with_reducible first | exact HB.out | apply below_alloc | apply pw_below_drewN | apply below_drew1 | refine below_set ?_ (IsS53.ge HI168.out)) | exact HB.out)); (case side3 => first | exact hG_ | exact hG_.g | (refine Glob.below (by first | exact hG_ | exact hG_.g) ?_; repeat (first | (with_reducible first | exact HB.out | apply below_alloc | apply pw_below_drewN | apply below_drew1 | refine below_set ?_ (IsS53.ge HI168.out)) | exact HB.out))); rintro e w23 ⟨rfl, hi, hb, hk⟩; refine ⟨_, rfl, ?_⟩; replace HI168 := Aside0.mk (hi); replace HB := Aside0.mk (hb); (try clear hb); (try clear hb2); (try clear hk); (try clear hi)) | ((with_reducible refine gate_dst (N := 55) rfl ?_); refine Kd.R_lit (Kd.int .u8) _ 5 ?hg (N := 55) ?hd (xs := ([(wrap64 (97 + (Int.tmod (wrap64 (a0)) 8))) % 256] : List Int)) (inner := [.int .u8 ((wrap64 (97 + (Int.tmod (wrap64 (a0)) 8))) % 256)]) (ok := fun _ => True) (okp := fun _ => True) ?hr ?hp (fun _ hk => hk) trivial (Below.refl _ _) (Nat.le_refl _) (by simp) ?_; (case hd => rfl); (case hg => rfl); (case hr => first | (go_simp; done) | (go_simp; rfl)); (case hp => exact (Reps.one (show Kd.M (Kd.int .u8) _ _ _ ((wrap64 (97 + (Int.tmod (wrap64 (a0)) 8))) % 256) [.int .u8 ((wrap64 (97 + (Int.tmod (wrap64 (a0)) 8))) % 256)] from rfl) (Reps.none _ _))); intro v179 w24 ho25 hb hg_ hnew_; clear hg_ hnew_; (first | rw [← Ny178.out] at ho25 | (simp only [Int.reduceToNat] at ho25; rw [← Ny178.out] at ho25)); have HO180 := Aside0.mk (Kd.R_lower ho25 (below_size (by repeat (first | (with_reducible first | exact HB.out | apply below_alloc | apply pw_below_drewN | apply below_drew1 | refine below_set ?_ (IsS53.ge HI168.out)) | exact HB.out)))); replace HB := Aside0.mk (below_step (by repeat (first | (with_reducible first | exact HB.out | apply below_alloc | apply pw_below_drewN | apply below_drew1 | refine below_set ?_ (IsS53.ge HI168.out)) | exact HB.out)) hb); replace HI168 := Aside0.mk (IsS53.below (by repeat (first | (with_reducible first | exact HI168.out | apply IsS53.alloc | apply IsS53.drewN | apply IsS53.drew | refine IsS53.putAt ?_ rfl rfl (by assumption) (by assumption) | apply IsS53.putAll) | exact HI168.out)) hb); clear hb ho25; have hcv26 := own_string (P := Tryd.prog) Tryd.underlying27 Tryd.underlying5 Tryd.underlying9 (Kd.own_of_R HO180.out)) | ((with_reducible refine gate_callee (f := 10) rfl ?_); refine zG (some 57) Tryd.func10 #[.pointer (some ⟨g168, 0, none⟩), .string (strOfNums y178)] ?_; (with_reducible refine (gate_Table_Close.calls g168 t177 (strOfNums y178) t181 t182 t183 t184 t185 t186 w _ ?side1 ?side2 A21.out).mono ?_); (case side1 => repeat (first | (with_reducible first | exact HI168.out | apply IsS53.alloc | apply IsS53.drewN | apply IsS53.drew | refine IsS53.putAt ?_ rfl rfl (by assumption) (by assumption) | apply IsS53.putAll) | exact HI168.out)); (case side2 => repeat (first | (with_reducible first | exact HB.out | apply below_alloc | apply pw_below_drewN | apply below_drew1 | refine below_set ?_ (IsS53.ge HI168.out)) | exact HB.out)); rintro e w27 ⟨rfl, hi, hb, hk⟩; refine ⟨_, rfl, ?_⟩; replace HO180 := Aside0.mk (Kd.R_mono (Kd.R_keep (IsS53.apart (show IsS53 w _ g168 t177 from by repeat (first | (with_reducible first | exact HI168.out | apply IsS53.alloc | apply IsS53.drewN | apply IsS53.drew | refine IsS53.putAt ?_ rfl rfl (by assumption) (by assumption) | apply IsS53.putAll) | exact HI168.out)) (zR HO180) (by decide)) hk (fun _ h => h.2)) (fun _ h => h.1)); replace HI168 := Aside0.mk (hi); replace HB := Aside0.mk (hb); (try clear hb); (try clear hb2); (try clear hk); (try clear hi)) | ((with_reducible refine gate_dst (N := 11) rfl ?_); refine zX (N := 11) (cs := #[.string (⟨#[]⟩ : ByteArray), .int .u16 0, .int .u32 0]) (t := 31) ?_ ?_; (focus first | (go_simp; done) | (go_simp; rfl)); intro gb187 hg w28 hbox hb; have BK187 := Aside0.mk (hbox); have GW187 := Aside0.mk ((by rw [hg]; exact (below_size (by repeat (first | (with_reducible first | exact HB.out | apply below_alloc | apply pw_below_drewN | apply below_drew1 | refine below_set ?_ (IsS53.ge HI168.out)) | exact HB.out))) : w.heap.size ≤ gb187)); have GE187 := Aside0.mk ((by rw [hg]; exact (below_size (by repeat (first | (with_reducible first | exact HB.out | apply below_alloc | apply pw_below_drewN | apply below_drew1 | refine below_set ?_ (IsS53.ge HI168.out)) | exact HB.out))) : w.heap.size ≤ gb187)); have NB168_187 := Aside0.mk ((by rw [hg]; exact Nat.ne_of_lt (IsS53.lt (show IsS53 w _ g168 t186 from by repeat (first | (with_reducible first | exact HI168.out | apply IsS53.alloc | apply IsS53.drewN | apply IsS53.drew | refine IsS53.putAt ?_ rfl rfl (by assumption) (by assumption) | apply IsS53.putAll) | exact HI168.out))) : g168 ≠ gb187)); have NB187_168 := Aside0.mk ((by rw [hg]; exact Nat.ne_of_gt (IsS53.lt (show IsS53 w _ g168 t186 from by repeat (first | (with_reducible first | exact HI168.out | apply IsS53.alloc | apply IsS53.drewN | apply IsS53.drew | refine IsS53.putAt ?_ rfl rfl (by assumption) (by assumption) | apply IsS53.putAll) | exact HI168.out))) : gb187 ≠ g168)); replace HO180 := Aside0.mk (Kd.R_below (zR HO180) hb); replace HB := Aside0.mk (below_step (by repeat (first | (with_reducible first | exact HB.out | apply below_alloc | apply pw_below_drewN | apply below_drew1 | refine below_set ?_ (IsS53.ge HI168.out)) | exact HB.out)) hb); replace HI168 := Aside0.mk (IsS53.below (by repeat (first | (with_reducible first | exact HI168.out | apply IsS53.alloc | apply IsS53.drewN | apply IsS53.drew | refine IsS53.putAt ?_ rfl rfl (by assumption) (by assumption) | apply IsS53.putAll) | exact HI168.out)) hb); clear hb hbox hg; have hnb29 := NB187_168.out; have hnc29 := NB168_187.out; obtain ⟨hcz30_0, hcz30_1, hcz30_2⟩ := zc3 BK187; obtain ⟨hfz30_0, hfz30_1, hfz30_2⟩ := zf3 BK187))
        (try simp only [Act.put, List.setIfInBounds_toArray, List.set_cons_zero, List.set_cons_succ])
        go_cut [13, 14] (fun v13 v14 wc => ∃ (kq : Nat) (x13_21 : Int) (x14_21 : Int) (x169000_21 : AR51), v13 = .int .i64 x13_21 ∧ v14 = .int .i64 x14_21 ∧ Aside0 (budwoodlaw18_GateFull.j1 kq t176 (Int.tmod (wrap64 (a0)) 8) t181 t185 x13_21 x14_21 x169000_21 t182 t183 t184 = some r) ∧ Aside0 (kq ≤ k1) ∧ Aside0 (wc.heap[gb187]? = some (.cells #[.string t182, .int .u16 t183, .int .u32 t184] 31 (0, 0))) ∧ Aside0 (IsS53 w wc g168 x169000_21) ∧ Aside0 (Below w.heap.size w wc))
        case first =>
          have H := HC22.out
          clear HC22
          replace H := Option.bind_eq_some_iff.mp H
          obtain ⟨⟨t188, t189, t190⟩, A310, H⟩ := H
          replace H : (budwoodlaw18_GateFull.j1 k1 t176 (Int.tmod (wrap64 (a0)) 8) t181 t185 t188 t189 t190 t182 t183 t184) = some r := H
          have A31 := Aside0.mk A310
          clear A310
          have H' := Aside0.mk H
          clear H
          go_wp2_with (first | ((with_reducible refine gate_callee (f := 9) rfl ?_); refine zG (some 64) Tryd.func9 #[.pointer (some ⟨g168, 0, none⟩), .agg #[.string (⟨#[122]⟩ : ByteArray), .int .u16 99, .int .u32 80]] ?_; (with_reducible refine (gate_Table_Open.calls k1 g168 t186 (⟨#[122]⟩ : ByteArray) 99 80 t188 t189 t190 w _ ?side1 ?side2 A31.out ?side3).mono ?_); (case side1 => repeat (first | (with_reducible first | exact HI168.out | apply IsS53.alloc | apply IsS53.drewN | apply IsS53.drew | refine IsS53.putAt ?_ rfl rfl (by assumption) (by assumption) | apply IsS53.putAll | refine IsS53.far ?_ NB168_187.out _) | exact HI168.out)); (case side2 => repeat (first | (with_reducible first | exact HB.out | apply below_alloc | apply pw_below_drewN | apply below_drew1 | refine below_set ?_ (IsS53.ge HI168.out) | refine below_set ?_ GE187.out) | exact HB.out)); (case side3 => first | exact hG_ | exact hG_.g | (refine Glob.below (by first | exact hG_ | exact hG_.g) ?_; repeat (first | (with_reducible first | exact HB.out | apply below_alloc | apply pw_below_drewN | apply below_drew1 | refine below_set ?_ (IsS53.ge HI168.out) | refine below_set ?_ GE187.out) | exact HB.out))); rintro e w32 ⟨rfl, hi, hb, hk⟩; refine ⟨_, rfl, ?_⟩; replace HO180 := Aside0.mk (Kd.R_mono (Kd.R_keep (IsS53.apart (show IsS53 w _ g168 t186 from by repeat (first | (with_reducible first | exact HI168.out | apply IsS53.alloc | apply IsS53.drewN | apply IsS53.drew | refine IsS53.putAt ?_ rfl rfl (by assumption) (by assumption) | apply IsS53.putAll | refine IsS53.far ?_ NB168_187.out _) | exact HI168.out)) (by (with_reducible repeat (first | apply Kd.R_alloc | apply Kd.R_drewN | apply Kd.R_drew)); exact (Kd.R_mono (Kd.R_far (p := ⟨gb187, 2, none⟩) (Kd.R_far (p := ⟨gb187, 1, none⟩) (Kd.R_far (p := ⟨gb187, 0, none⟩) (Kd.R_types HO180.out BK187.out (by decide)) (fun _ hk => hk.2) (.string t182)) (fun _ hk => hk.2) (.int .u16 t183)) (fun _ hk => hk.2) (.int .u32 t184)) (fun _ h_ => h_.1))) (by decide)) hk (fun _ h => h.2)) (fun _ h => h.1)); replace BK187 := Aside0.mk (KeepBut.blk hk (g' := gb187) (o := .cells #[.string t182, .int .u16 t183, .int .u32 t184] 31 (0, 0)) zV NB187_168.out (by simp)); replace HI168 := Aside0.mk (hi); replace HB := Aside0.mk (hb); (try clear hb); (try clear hb2); (try clear hk); (try clear hi)))
          go_meet
          case rel => exact ⟨_, (t188), (t189), (t190), (zE), (zE), H', ⟨by have := HK1.out; first | omega | exact Nat.le_refl _⟩, ⟨zK⟩, ⟨by repeat (first | (with_reducible first | exact HI168.out | apply IsS53.alloc | apply IsS53.drewN | apply IsS53.drew | refine IsS53.putAt ?_ rfl rfl (by assumption) (by assumption) | apply IsS53.putAll | refine IsS53.far ?_ NB168_187.out _) | exact HI168.out)⟩, ⟨by repeat (first | (with_reducible first | exact HB.out | apply below_alloc | apply pw_below_drewN | apply below_drew1 | refine below_set ?_ (IsS53.ge HI168.out) | refine below_set ?_ GE187.out) | exact HB.out)⟩⟩
        case rest =>
          clear HC22
          try clear c1
          try clear hcv1
          try clear c2
          try clear p2
          try clear hcv2
          try clear c3
          try clear c4
          try clear c4b0
          try clear c6
          try clear c6b0
          try clear c6b1
          try clear p6
          try clear c7
          try clear c7b0
          try clear c7b1
          try clear c8
          try clear c9
          try clear c10
          try clear hcv10
          try clear hcv14
          try clear hcv18
          try clear hcv26
          try clear c29
          try clear hcz30_0 hcz30_1 hcz30_2
          try clear hfz30_0 hfz30_1 hfz30_2
          try clear p2
          obtain ⟨kq, x13_21, x14_21, x169000_21, rfl, rfl, HA, HJ21, BK187, HI168, HB⟩ := hcut
          cases kq with
          | zero => exact absurd HA.out (by simp [budwoodlaw18_GateFull.j1])
          | succ kj21 =>
            have H := HA.out
            clear HA
            simp only [budwoodlaw18_GateFull.j1] at H
            by_cases c33 : t176 = 28
            · rw [if_pos c33] at H
              have c33b0 : (t176 == 28) = true := beq_iff_eq.mpr c33
              have c33b1 : (t176 != 28) = false := bne_eq_false_iff_eq.mpr c33
              clear c33
              by_cases c34 : t185 = 0
              · rw [if_pos c34] at H
                have c34b0 : (t185 == 0) = true := beq_iff_eq.mpr c34
                have c34b1 : (t185 != 0) = false := bne_eq_false_iff_eq.mpr c34
                clear c34
                by_cases c35 : t181 = (Int.tmod (wrap64 (a0)) 8)
                · rw [if_pos c35] at H
                  have c35b0 : (t181 == (Int.tmod (wrap64 (a0)) 8)) = true := beq_iff_eq.mpr c35
                  have c35b1 : (t181 != (Int.tmod (wrap64 (a0)) 8)) = false := bne_eq_false_iff_eq.mpr c35
                  clear c35
                  by_cases c36 : t183 = (IntKind.u16.wrap (wrap64 (1 + (Int.tmod (wrap64 (a0)) 8))))
                  · rw [if_pos c36] at H
                    have c36b0 : (t183 == (IntKind.u16.wrap (wrap64 (1 + (Int.tmod (wrap64 (a0)) 8))))) = true := beq_iff_eq.mpr c36
                    have c36b1 : (t183 != (IntKind.u16.wrap (wrap64 (1 + (Int.tmod (wrap64 (a0)) 8))))) = false := bne_eq_false_iff_eq.mpr c36
                    clear c36
                    by_cases c37 : x13_21 = (Int.tmod (wrap64 (a0)) 8)
                    · rw [if_pos c37] at H
                      have c37b0 : (x13_21 == (Int.tmod (wrap64 (a0)) 8)) = true := beq_iff_eq.mpr c37
                      have c37b1 : (x13_21 != (Int.tmod (wrap64 (a0)) 8)) = false := bne_eq_false_iff_eq.mpr c37
                      clear c37
                      by_cases c38 : x14_21 = 0
                      · rw [if_pos c38] at H
                        have c38b0 : (x14_21 == 0) = true := beq_iff_eq.mpr c38
                        have c38b1 : (x14_21 != 0) = false := bne_eq_false_iff_eq.mpr c38
                        clear c38
                        replace H := Option.bind_eq_some_iff.mp H
                        obtain ⟨⟨t191, t192⟩, A390, H⟩ := H
                        replace H : (if t191 = 0 then ((budwoodlaw18_awake.f kj21).bind fun t193 => (some t193)) else (some false)) = some r := H
                        have A39 := Aside0.mk A390
                        clear A390
                        by_cases c40 : t191 = 0
                        · rw [if_pos c40] at H
                          have c40b0 : (t191 == 0) = true := beq_iff_eq.mpr c40
                          have c40b1 : (t191 != 0) = false := bne_eq_false_iff_eq.mpr c40
                          clear c40
                          replace H := Option.bind_eq_some_iff.mp H
                          obtain ⟨t193, A410, H⟩ := H
                          replace H : (some t193) = some r := H
                          have A41 := Aside0.mk A410
                          clear A410
                          obtain rfl := Option.some.inj H
                          have hnb42 := NB187_168.out
                          have hnc42 := NB168_187.out
                          obtain ⟨hcz43_0, hcz43_1, hcz43_2⟩ := zc3 BK187
                          obtain ⟨hfz43_0, hfz43_1, hfz43_2⟩ := zf3 BK187
                          go_wp2_with (first | (go_at_call 11; (with_reducible refine (gate_Table_Free.calls kj21 g168 x169000_21 t191 t192 w _ ?side1 ?side2 A39.out).mono ?_); (case side1 => repeat (first | (with_reducible first | exact HI168.out | apply IsS53.alloc | apply IsS53.drewN | apply IsS53.drew | refine IsS53.putAt ?_ rfl rfl (by assumption) (by assumption) | apply IsS53.putAll | refine IsS53.far ?_ NB168_187.out _) | exact HI168.out)); (case side2 => repeat (first | (with_reducible first | exact HB.out | apply below_alloc | apply pw_below_drewN | apply below_drew1 | refine below_set ?_ (IsS53.ge HI168.out) | refine below_set ?_ GE187.out) | exact HB.out)); rintro e w44 ⟨rfl, hi, hb, hk⟩; replace BK187 := Aside0.mk (KeepBut.blk hk (g' := gb187) (o := .cells #[.string t182, .int .u16 t183, .int .u32 t184] 31 (0, 0)) zK NB187_168.out (by simp)); replace HI168 := Aside0.mk (hi); replace HB := Aside0.mk (hb); (try clear hb); (try clear hb2); (try clear hk); (try clear hi)) | (go_at_call 12; (with_reducible refine (budwoodlaw18_awake.calls kj21  t193 _ A41.out ?side1).mono ?_); (case side1 => first | exact hG_ | exact hG_.g | (refine Glob.below (by first | exact hG_ | exact hG_.g) ?_; repeat (first | (with_reducible first | exact HB.out | apply below_alloc | apply pw_below_drewN | apply below_drew1 | refine below_set ?_ (IsS53.ge HI168.out) | refine below_set ?_ GE187.out) | exact HB.out))); rintro e w45 ⟨rfl, hb⟩; replace BK187 := Aside0.mk (zL BK187 hb); replace HB := Aside0.mk (below_step (by repeat (first | (with_reducible first | exact HB.out | apply below_alloc | apply pw_below_drewN | apply below_drew1 | refine below_set ?_ (IsS53.ge HI168.out) | refine below_set ?_ GE187.out) | exact HB.out)) hb); replace HI168 := Aside0.mk (IsS53.below (by repeat (first | (with_reducible first | exact HI168.out | apply IsS53.alloc | apply IsS53.drewN | apply IsS53.drew | refine IsS53.putAt ?_ rfl rfl (by assumption) (by assumption) | apply IsS53.putAll | refine IsS53.far ?_ NB168_187.out _) | exact HI168.out)) hb); (try clear hb); (try clear hb2); (try clear hk); (try clear hi)))
                          go_ret
                          exact ⟨zF, by repeat (first | (with_reducible first | exact HB.out | apply below_alloc | apply pw_below_drewN | apply below_drew1 | refine below_set ?_ (IsS53.ge HI168.out) | refine below_set ?_ GE187.out) | exact HB.out)⟩
                        · rw [if_neg c40] at H
                          have c40b0 : (t191 == 0) = false := beq_eq_false_iff_ne.mpr c40
                          have c40b1 : (t191 != 0) = true := bne_iff_ne.mpr c40
                          obtain rfl := Option.some.inj H
                          have hnb46 := NB187_168.out
                          have hnc46 := NB168_187.out
                          obtain ⟨hcz47_0, hcz47_1, hcz47_2⟩ := zc3 BK187
                          obtain ⟨hfz47_0, hfz47_1, hfz47_2⟩ := zf3 BK187
                          go_wp2_with (first | (go_at_call 11; (with_reducible refine (gate_Table_Free.calls kj21 g168 x169000_21 t191 t192 w _ ?side1 ?side2 A39.out).mono ?_); (case side1 => repeat (first | (with_reducible first | exact HI168.out | apply IsS53.alloc | apply IsS53.drewN | apply IsS53.drew | refine IsS53.putAt ?_ rfl rfl (by assumption) (by assumption) | apply IsS53.putAll | refine IsS53.far ?_ NB168_187.out _) | exact HI168.out)); (case side2 => repeat (first | (with_reducible first | exact HB.out | apply below_alloc | apply pw_below_drewN | apply below_drew1 | refine below_set ?_ (IsS53.ge HI168.out) | refine below_set ?_ GE187.out) | exact HB.out)); rintro e w48 ⟨rfl, hi, hb, hk⟩; replace BK187 := Aside0.mk (KeepBut.blk hk (g' := gb187) (o := .cells #[.string t182, .int .u16 t183, .int .u32 t184] 31 (0, 0)) zK NB187_168.out (by simp)); replace HI168 := Aside0.mk (hi); replace HB := Aside0.mk (hb); (try clear hb); (try clear hb2); (try clear hk); (try clear hi)))
                          go_ret
                          exact ⟨zF, by repeat (first | (with_reducible first | exact HB.out | apply below_alloc | apply pw_below_drewN | apply below_drew1 | refine below_set ?_ (IsS53.ge HI168.out) | refine below_set ?_ GE187.out) | exact HB.out)⟩
                      · rw [if_neg c38] at H
                        have c38b0 : (x14_21 == 0) = false := beq_eq_false_iff_ne.mpr c38
                        have c38b1 : (x14_21 != 0) = true := bne_iff_ne.mpr c38
                        obtain rfl := Option.some.inj H
                        have hnb49 := NB187_168.out
                        have hnc49 := NB168_187.out
                        obtain ⟨hcz50_0, hcz50_1, hcz50_2⟩ := zc3 BK187
                        obtain ⟨hfz50_0, hfz50_1, hfz50_2⟩ := zf3 BK187
                        go_wp2
                        go_ret
                        exact ⟨zF, by repeat (first | (with_reducible first | exact HB.out | apply below_alloc | apply pw_below_drewN | apply below_drew1 | refine below_set ?_ (IsS53.ge HI168.out) | refine below_set ?_ GE187.out) | exact HB.out)⟩
                    · rw [if_neg c37] at H
                      have c37b0 : (x13_21 == (Int.tmod (wrap64 (a0)) 8)) = false := beq_eq_false_iff_ne.mpr c37
                      have c37b1 : (x13_21 != (Int.tmod (wrap64 (a0)) 8)) = true := bne_iff_ne.mpr c37
                      obtain rfl := Option.some.inj H
                      have hnb51 := NB187_168.out
                      have hnc51 := NB168_187.out
                      obtain ⟨hcz52_0, hcz52_1, hcz52_2⟩ := zc3 BK187
                      obtain ⟨hfz52_0, hfz52_1, hfz52_2⟩ := zf3 BK187
                      go_wp2
                      go_ret
                      exact ⟨zF, by repeat (first | (with_reducible first | exact HB.out | apply below_alloc | apply pw_below_drewN | apply below_drew1 | refine below_set ?_ (IsS53.ge HI168.out) | refine below_set ?_ GE187.out) | exact HB.out)⟩
                  · rw [if_neg c36] at H
                    have c36b0 : (t183 == (IntKind.u16.wrap (wrap64 (1 + (Int.tmod (wrap64 (a0)) 8))))) = false := beq_eq_false_iff_ne.mpr c36
                    have c36b1 : (t183 != (IntKind.u16.wrap (wrap64 (1 + (Int.tmod (wrap64 (a0)) 8))))) = true := bne_iff_ne.mpr c36
                    obtain rfl := Option.some.inj H
                    have hnb53 := NB187_168.out
                    have hnc53 := NB168_187.out
                    obtain ⟨hcz54_0, hcz54_1, hcz54_2⟩ := zc3 BK187
                    obtain ⟨hfz54_0, hfz54_1, hfz54_2⟩ := zf3 BK187
                    go_wp2
                    go_ret
                    exact ⟨zF, by repeat (first | (with_reducible first | exact HB.out | apply below_alloc | apply pw_below_drewN | apply below_drew1 | refine below_set ?_ (IsS53.ge HI168.out) | refine below_set ?_ GE187.out) | exact HB.out)⟩
                · rw [if_neg c35] at H
                  have c35b0 : (t181 == (Int.tmod (wrap64 (a0)) 8)) = false := beq_eq_false_iff_ne.mpr c35
                  have c35b1 : (t181 != (Int.tmod (wrap64 (a0)) 8)) = true := bne_iff_ne.mpr c35
                  obtain rfl := Option.some.inj H
                  go_wp2
                  go_ret
                  exact ⟨zF, by repeat (first | (with_reducible first | exact HB.out | apply below_alloc | apply pw_below_drewN | apply below_drew1 | refine below_set ?_ (IsS53.ge HI168.out) | refine below_set ?_ GE187.out) | exact HB.out)⟩
              · rw [if_neg c34] at H
                have c34b0 : (t185 == 0) = false := beq_eq_false_iff_ne.mpr c34
                have c34b1 : (t185 != 0) = true := bne_iff_ne.mpr c34
                obtain rfl := Option.some.inj H
                go_wp2
                go_ret
                exact ⟨zF, by repeat (first | (with_reducible first | exact HB.out | apply below_alloc | apply pw_below_drewN | apply below_drew1 | refine below_set ?_ (IsS53.ge HI168.out) | refine below_set ?_ GE187.out) | exact HB.out)⟩
            · rw [if_neg c33] at H
              have c33b0 : (t176 == 28) = false := beq_eq_false_iff_ne.mpr c33
              have c33b1 : (t176 != 28) = true := bne_iff_ne.mpr c33
              obtain rfl := Option.some.inj H
              go_wp2
              go_ret
              exact ⟨zF, by repeat (first | (with_reducible first | exact HB.out | apply below_alloc | apply pw_below_drewN | apply below_drew1 | refine below_set ?_ (IsS53.ge HI168.out) | refine below_set ?_ GE187.out) | exact HB.out)⟩

/-! ### budwoodref18_Table_place: function 35 -/
set_option maxHeartbeats 8000000 in
set_option maxRecDepth 100000 in
theorem budwoodref18_Table_place.calls (k : Nat) (a0_0 : AR39) (a1 : ByteArray) (r : Int) (w : World) (h : budwoodref18_Table_place.f k a0_0 a1 = some r) :
    Calls Tryd.prog 35 #[.agg (AR39.enc a0_0), .string a1] w fun e w' => e = .returned (.int .i64 r) ∧ Below w.heap.size w w' := by
  have hu41 := Tryd.underlying41
  have HB := Aside0.mk (Below.refl w.heap.size w)
  have H : (budwoodref18_Table_place.l0 k a1 0 a0_0) = some r := h
  clear h
  have H' := Aside0.mk H
  clear H
  go_enter Tryd.func35, Tryd.ntmps35
  go_wp2_with (first | ((with_reducible refine gate_dst (N := 2) rfl ?_); refine box_event ?hg (N := 2) ?hd (cs := (AR39.enc a0_0)) (t := 41) ?hr ?_; (case hd => rfl); (case hg => rfl); (case hr => first | (go_simp; done) | (go_simp; rfl)); intro gb194 hg w3 hbox hb; have BK194 := Aside0.mk (hbox); have GW194 := Aside0.mk (zS hg : w.heap.size ≤ gb194); have GE194 := Aside0.mk (zS hg : w.heap.size ≤ gb194); replace HB := Aside0.mk (below_step zB hb); clear hb hbox hg))
  go_loopg [5] k (fun kq v5 w' => ∃ (x5_1 : Int), v5 = .int .i64 x5_1 ∧ Aside0 (budwoodref18_Table_place.l0 kq a1 x5_1 a0_0 = some r) ∧ Aside0 (kq ≤ k) ∧ Aside0 (w'.heap[gb194]? = some (.cells (AR39.enc a0_0) 41 (0, 0))) ∧ Aside0 (Below w.heap.size w w'))
  case atStart => exact ⟨(0), (zE), H', ⟨Nat.le_refl _⟩, ⟨zK⟩, ⟨zB⟩⟩
  case round =>
    clear H'
    try clear p2
    try clear c3
    obtain ⟨x5_1, rfl, HA, HK1, BK194, HB⟩ := hrel
    cases gk with
    | zero => exact absurd HA.out (by simp [budwoodref18_Table_place.l0])
    | succ k1 =>
      have H := HA.out
      clear HA
      simp only [budwoodref18_Table_place.l0] at H
      by_cases c4 : x5_1 < 8
      · rw [if_pos c4] at H
        have c4b0 : decide (x5_1 < 8) = true := decide_eq_true c4
        clear c4
        by_cases c5 : 0 ≤ x5_1
        · rw [if_pos c5] at H
          have c5b0 : decide (0 ≤ x5_1) = true := decide_eq_true c5
          clear c5
          by_cases c6 : ((AR39.rd a0_0 x5_1).f1) = 0
          · rw [if_pos c6] at H
            have c6b0 : (((AR39.rd a0_0 x5_1).f1) == 0) = true := beq_iff_eq.mpr c6
            have c6b1 : (((AR39.rd a0_0 x5_1).f1) != 0) = false := bne_eq_false_iff_eq.mpr c6
            clear c6
            have H' := Aside0.mk H
            clear H
            have hloi8 : (0 : Int) ≤ x5_1 := of_decide_eq_true (by first | (with_reducible assumption) | assumption)
            have hhii8 : x5_1 < (8 : Int) := of_decide_eq_true (by first | (with_reducible assumption) | assumption)
            obtain ⟨ha7_0, ha7_1, ha7_2⟩ := AR39.at_ BK194.out x5_1 (of_decide_eq_true (by first | (with_reducible assumption) | assumption)) (of_decide_eq_true (by first | (with_reducible assumption) | assumption))
            go_wp2
            go_roundg k1
            case measure => have := HK1.out; omega
            case rel => exact ⟨(wrap64 (x5_1 + 1)), (zE), H', ⟨by have := HK1.out; omega⟩, ⟨zK⟩, ⟨zB⟩⟩
          · rw [if_neg c6] at H
            have c6b0 : (((AR39.rd a0_0 x5_1).f1) == 0) = false := beq_eq_false_iff_ne.mpr c6
            have c6b1 : (((AR39.rd a0_0 x5_1).f1) != 0) = true := bne_iff_ne.mpr c6
            by_cases c9 : ((AR39.rd a0_0 x5_1).f0).toList = a1.toList
            · rw [if_pos c9] at H
              have c9b0 : (((AR39.rd a0_0 x5_1).f0).toList == a1.toList) = true := beq_iff_eq.mpr c9
              have c9b1 : (((AR39.rd a0_0 x5_1).f0).toList != a1.toList) = false := bne_eq_false_iff_eq.mpr c9
              clear c9
              obtain rfl := Option.some.inj H
              have hloi11 : (0 : Int) ≤ x5_1 := of_decide_eq_true (by first | (with_reducible assumption) | assumption)
              have hhii11 : x5_1 < (8 : Int) := of_decide_eq_true (by first | (with_reducible assumption) | assumption)
              obtain ⟨ha10_0, ha10_1, ha10_2⟩ := AR39.at_ BK194.out x5_1 (of_decide_eq_true (by first | (with_reducible assumption) | assumption)) (of_decide_eq_true (by first | (with_reducible assumption) | assumption))
              obtain ⟨ha12_0, ha12_1, ha12_2⟩ := AR39.at_ BK194.out x5_1 (of_decide_eq_true (by first | (with_reducible assumption) | assumption)) (of_decide_eq_true (by first | (with_reducible assumption) | assumption))
              go_wp2
              go_ret
              exact ⟨zF, zB⟩
            · rw [if_neg c9] at H
              have c9b0 : (((AR39.rd a0_0 x5_1).f0).toList == a1.toList) = false := beq_eq_false_iff_ne.mpr c9
              have c9b1 : (((AR39.rd a0_0 x5_1).f0).toList != a1.toList) = true := bne_iff_ne.mpr c9
              have H' := Aside0.mk H
              clear H
              have hloi14 : (0 : Int) ≤ x5_1 := of_decide_eq_true (by first | (with_reducible assumption) | assumption)
              have hhii14 : x5_1 < (8 : Int) := of_decide_eq_true (by first | (with_reducible assumption) | assumption)
              obtain ⟨ha13_0, ha13_1, ha13_2⟩ := AR39.at_ BK194.out x5_1 (of_decide_eq_true (by first | (with_reducible assumption) | assumption)) (of_decide_eq_true (by first | (with_reducible assumption) | assumption))
              obtain ⟨ha15_0, ha15_1, ha15_2⟩ := AR39.at_ BK194.out x5_1 (of_decide_eq_true (by first | (with_reducible assumption) | assumption)) (of_decide_eq_true (by first | (with_reducible assumption) | assumption))
              go_wp2
              go_roundg k1
              case measure => have := HK1.out; omega
              case rel => exact ⟨(wrap64 (x5_1 + 1)), (zE), H', ⟨by have := HK1.out; omega⟩, ⟨zK⟩, ⟨zB⟩⟩
        · rw [if_neg c5] at H
          exact absurd H (by simp)
      · rw [if_neg c4] at H
        have c4b0 : decide (x5_1 < 8) = false := decide_eq_false c4
        clear c4
        obtain rfl := Option.some.inj H
        go_wp2
        go_ret
        exact ⟨zF, zB⟩

/-! ### budwoodref18_Table_owned: function 36 -/
set_option maxHeartbeats 8000000 in
set_option maxRecDepth 100000 in
theorem budwoodref18_Table_owned.calls (k : Nat) (a0_0 : AR39) (a1 : Int) (r : Bool) (w : World) (h : budwoodref18_Table_owned.f k a0_0 a1 = some r) :
    Calls Tryd.prog 36 #[.agg (AR39.enc a0_0), .int .u16 a1] w fun e w' => e = .returned (.bool r) ∧ Below w.heap.size w w' := by
  have hu41 := Tryd.underlying41
  have HB := Aside0.mk (Below.refl w.heap.size w)
  have H : (budwoodref18_Table_owned.l0 k a1 0 a0_0) = some r := h
  clear h
  have H' := Aside0.mk H
  clear H
  go_enter Tryd.func36, Tryd.ntmps36
  go_wp2_with (first | ((with_reducible refine gate_dst (N := 2) rfl ?_); refine box_event ?hg (N := 2) ?hd (cs := (AR39.enc a0_0)) (t := 41) ?hr ?_; (case hd => rfl); (case hg => rfl); (case hr => first | (go_simp; done) | (go_simp; rfl)); intro gb195 hg w3 hbox hb; have BK195 := Aside0.mk (hbox); have GW195 := Aside0.mk (zS hg : w.heap.size ≤ gb195); have GE195 := Aside0.mk (zS hg : w.heap.size ≤ gb195); replace HB := Aside0.mk (below_step zB hb); clear hb hbox hg))
  go_loopg [5] k (fun kq v5 w' => ∃ (x5_1 : Int), v5 = .int .i64 x5_1 ∧ Aside0 (budwoodref18_Table_owned.l0 kq a1 x5_1 a0_0 = some r) ∧ Aside0 (kq ≤ k) ∧ Aside0 (w'.heap[gb195]? = some (.cells (AR39.enc a0_0) 41 (0, 0))) ∧ Aside0 (Below w.heap.size w w'))
  case atStart => exact ⟨(0), (zE), H', ⟨Nat.le_refl _⟩, ⟨zK⟩, ⟨zB⟩⟩
  case round =>
    clear H'
    try clear p2
    try clear c3
    obtain ⟨x5_1, rfl, HA, HK1, BK195, HB⟩ := hrel
    cases gk with
    | zero => exact absurd HA.out (by simp [budwoodref18_Table_owned.l0])
    | succ k1 =>
      have H := HA.out
      clear HA
      simp only [budwoodref18_Table_owned.l0] at H
      by_cases c4 : x5_1 < 8
      · rw [if_pos c4] at H
        have c4b0 : decide (x5_1 < 8) = true := decide_eq_true c4
        clear c4
        by_cases c5 : 0 ≤ x5_1
        · rw [if_pos c5] at H
          have c5b0 : decide (0 ≤ x5_1) = true := decide_eq_true c5
          clear c5
          by_cases c6 : ((AR39.rd a0_0 x5_1).f1) = a1
          · rw [if_pos c6] at H
            have c6b0 : (((AR39.rd a0_0 x5_1).f1) == a1) = true := beq_iff_eq.mpr c6
            have c6b1 : (((AR39.rd a0_0 x5_1).f1) != a1) = false := bne_eq_false_iff_eq.mpr c6
            clear c6
            obtain rfl := Option.some.inj H
            have hloi8 : (0 : Int) ≤ x5_1 := of_decide_eq_true (by first | (with_reducible assumption) | assumption)
            have hhii8 : x5_1 < (8 : Int) := of_decide_eq_true (by first | (with_reducible assumption) | assumption)
            obtain ⟨ha7_0, ha7_1, ha7_2⟩ := AR39.at_ BK195.out x5_1 (of_decide_eq_true (by first | (with_reducible assumption) | assumption)) (of_decide_eq_true (by first | (with_reducible assumption) | assumption))
            go_wp2
            go_ret
            exact ⟨zF, zB⟩
          · rw [if_neg c6] at H
            have c6b0 : (((AR39.rd a0_0 x5_1).f1) == a1) = false := beq_eq_false_iff_ne.mpr c6
            have c6b1 : (((AR39.rd a0_0 x5_1).f1) != a1) = true := bne_iff_ne.mpr c6
            have H' := Aside0.mk H
            clear H
            have hloi10 : (0 : Int) ≤ x5_1 := of_decide_eq_true (by first | (with_reducible assumption) | assumption)
            have hhii10 : x5_1 < (8 : Int) := of_decide_eq_true (by first | (with_reducible assumption) | assumption)
            obtain ⟨ha9_0, ha9_1, ha9_2⟩ := AR39.at_ BK195.out x5_1 (of_decide_eq_true (by first | (with_reducible assumption) | assumption)) (of_decide_eq_true (by first | (with_reducible assumption) | assumption))
            go_wp2
            go_roundg k1
            case measure => have := HK1.out; omega
            case rel => exact ⟨(wrap64 (x5_1 + 1)), (zE), H', ⟨by have := HK1.out; omega⟩, ⟨zK⟩, ⟨zB⟩⟩
        · rw [if_neg c5] at H
          exact absurd H (by simp)
      · rw [if_neg c4] at H
        have c4b0 : decide (x5_1 < 8) = false := decide_eq_false c4
        clear c4
        obtain rfl := Option.some.inj H
        go_wp2
        go_ret
        exact ⟨zF, zB⟩

end Go.Proofs.YtlgmboaoemlnpaaDoor.P
