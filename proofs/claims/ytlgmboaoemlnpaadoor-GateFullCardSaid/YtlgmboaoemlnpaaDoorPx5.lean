-- WRITTEN BY bud.py (a program of this session's over the kit's print). Not trusted: Lean checks it.
import Derived.Test.YtlgmboaoemlnpaaDoorPx0
import Derived.Test.YtlgmboaoemlnpaaDoorPxf
import Derived.Test.YtlgmboaoemlnpaaDoorPx2
import Derived.Test.YtlgmboaoemlnpaaDoorPx3
import Derived.Test.YtlgmboaoemlnpaaDoorPx4
import Derived.Test.YtlgmboaoemlnpaaDoorGtIdx
namespace Go.Proofs.YtlgmboaoemlnpaaDoor.P
open Go.RowKit Go.Proofs.YtlgmboaoemlnpaaDoorW.PrintWords Go.Proofs.YtlgmboaoemlnpaaDoorW.PrintLast Go.Proofs.YtlgmboaoemlnpaaDoorW.PrintMore
attribute [local go_sem] max2_int min2_int max_two min_two max_three min_three max_four min_four   -- for this text's walks alone
set_option linter.unusedVariables false
set_option linter.unusedSimpArgs false

/-! ### gate_Table_Open: function 9 -/
set_option maxHeartbeats 8000000 in
set_option maxRecDepth 100000 in
theorem gate_Table_Open.calls (k : Nat) (g : Nat) (s0_0 : AR51) (a1_0 : ByteArray) (a1_1 : Int) (a1_2 : Int) (r1 : Int) (r2 : Int) (r3 : AR51) (w0 w : World) (hI : IsS53 w0 w g s0_0) (hB : Below w0.heap.size w0 w) (h : gate_Table_Open.f k s0_0 a1_0 a1_1 a1_2 = some (r1, r2, r3)) (hG_ : Glob w0) :
    Calls Tryd.prog 9 #[.pointer (some ⟨g, 0, none⟩), .agg #[.string a1_0, .int .u16 a1_1, .int .u32 a1_2]] w fun e w' => e = .returned (.tuple #[.int .i64 r1, .int .i64 r2]) ∧ IsS53 w0 w' g r3 ∧ Below w0.heap.size w0 w' ∧ KeepBut w w' g none := by
  have hu31 := Tryd.underlying31
  have HI0 := Aside0.mk hI
  have HK := Aside0.mk (KeepBut.refl w g none)
  have HL := Aside0.mk hB.size
  clear hI
  have HW0 := Aside0.mk hB.size
  have HB := Aside0.mk hB
  clear hB
  have H : ((name_Check.f k a1_0).bind fun t122 => (if t122 = 0 then ((gate_zero.f a1_0 a1_1 a1_2).bind fun t123 => (if t123 = true then (some (0, 2, s0_0)) else ((gate_Table_of.f s0_0 a1_0).bind fun bt124 => (if bt124.1 ≥ 0 then (gate_Table_Open.j0 k true bt124.2 a1_0 a1_1 a1_2) else ((gate_Table_owned.f bt124.2 a1_1).bind fun bt126 => (gate_Table_Open.j0 k bt126.1 bt126.2 a1_0 a1_1 a1_2)))))) else (some (0, 6, s0_0)))) = some (r1, r2, r3) := h
  clear h
  replace H := Option.bind_eq_some_iff.mp H
  obtain ⟨t122, A30, H⟩ := H
  replace H : (if t122 = 0 then ((gate_zero.f a1_0 a1_1 a1_2).bind fun t123 => (if t123 = true then (some (0, 2, s0_0)) else ((gate_Table_of.f s0_0 a1_0).bind fun bt124 => (if bt124.1 ≥ 0 then (gate_Table_Open.j0 k true bt124.2 a1_0 a1_1 a1_2) else ((gate_Table_owned.f bt124.2 a1_1).bind fun bt126 => (gate_Table_Open.j0 k bt126.1 bt126.2 a1_0 a1_1 a1_2)))))) else (some (0, 6, s0_0))) = some (r1, r2, r3) := H
  have A3 := Aside0.mk A30
  clear A30
  by_cases c4 : t122 = 0
  · rw [if_pos c4] at H
    have c4b0 : (t122 == 0) = true := beq_iff_eq.mpr c4
    have c4b1 : (t122 != 0) = false := bne_eq_false_iff_eq.mpr c4
    clear c4
    replace H := Option.bind_eq_some_iff.mp H
    obtain ⟨t123, A50, H⟩ := H
    replace H : (if t123 = true then (some (0, 2, s0_0)) else ((gate_Table_of.f s0_0 a1_0).bind fun bt124 => (if bt124.1 ≥ 0 then (gate_Table_Open.j0 k true bt124.2 a1_0 a1_1 a1_2) else ((gate_Table_owned.f bt124.2 a1_1).bind fun bt126 => (gate_Table_Open.j0 k bt126.1 bt126.2 a1_0 a1_1 a1_2))))) = some (r1, r2, r3) := H
    have A5 := Aside0.mk A50
    clear A50
    by_cases c6 : t123 = true
    · subst c6
      replace H := zT H
      simp only [Option.some.injEq, Prod.mk.injEq] at H
      obtain ⟨rfl, rfl, rfl⟩ := H
      go_enter Tryd.func9, Tryd.ntmps9
      go_wp2_with (first | ((with_reducible refine gate_dst (N := 3) rfl ?_); refine zX (N := 3) (cs := #[.string a1_0, .int .u16 a1_1, .int .u32 a1_2]) (t := 31) ?_ ?_; (focus first | (go_simp; done) | (go_simp; rfl)); intro gb121 hg w7 hbox hb; have BK121 := Aside0.mk (hbox); have GW121 := Aside0.mk ((by rw [hg]; exact (keep_size (w := w) (g := g) (row := none) (by repeat (first | (with_reducible first | exact HK.out | apply KeepBut.set_ | apply keep_drewN | apply keep_drew | apply keep_alloc) | exact HK.out))) : w.heap.size ≤ gb121)); have GE121 := Aside0.mk ((Nat.le_trans HW0.out (by rw [hg]; exact (keep_size (w := w) (g := g) (row := none) (by repeat (first | (with_reducible first | exact HK.out | apply KeepBut.set_ | apply keep_drewN | apply keep_drew | apply keep_alloc) | exact HK.out))) : w.heap.size ≤ gb121) : w0.heap.size ≤ gb121)); have NB0_121 := Aside0.mk ((by rw [hg]; exact Nat.ne_of_lt (IsS53.lt (show IsS53 w0 _ g s0_0 from by repeat (first | (with_reducible first | exact HI0.out | apply IsS53.alloc | apply IsS53.drewN | apply IsS53.drew | refine IsS53.putAt ?_ rfl rfl (by assumption) (by assumption) | apply IsS53.putAll) | exact HI0.out))) : g ≠ gb121)); have NB121_0 := Aside0.mk ((by rw [hg]; exact Nat.ne_of_gt (IsS53.lt (show IsS53 w0 _ g s0_0 from by repeat (first | (with_reducible first | exact HI0.out | apply IsS53.alloc | apply IsS53.drewN | apply IsS53.drew | refine IsS53.putAt ?_ rfl rfl (by assumption) (by assumption) | apply IsS53.putAll) | exact HI0.out))) : gb121 ≠ g)); replace HK := Aside0.mk (KeepBut.trans (by repeat (first | (with_reducible first | exact HK.out | apply KeepBut.set_ | apply keep_drewN | apply keep_drew | apply keep_alloc) | exact HK.out)) (KeepBut.of_below hb g none) (.inl rfl)); replace HB := Aside0.mk (below_step (by repeat (first | (with_reducible first | exact HB.out | apply below_alloc | apply pw_below_drewN | apply below_drew1 | refine below_set ?_ (IsS53.ge HI0.out)) | exact HB.out)) hb); replace HI0 := Aside0.mk (IsS53.below (by repeat (first | (with_reducible first | exact HI0.out | apply IsS53.alloc | apply IsS53.drewN | apply IsS53.drew | refine IsS53.putAt ?_ rfl rfl (by assumption) (by assumption) | apply IsS53.putAll) | exact HI0.out)) hb); clear hb hbox hg; have hnb8 := NB121_0.out; have hnc8 := NB0_121.out; obtain ⟨hcz9_0, hcz9_1, hcz9_2⟩ := zc3 BK121; obtain ⟨hfz9_0, hfz9_1, hfz9_2⟩ := zf3 BK121) | ((with_reducible refine gate_callee (f := 19) rfl ?_); refine zG (some 13) Tryd.func19 #[.string a1_0] ?_; (with_reducible refine (name_Check.calls k a1_0 t122 _ A3.out ?side1).mono ?_); (case side1 => first | exact hG_ | exact hG_.g | (refine Glob.below (by first | exact hG_ | exact hG_.g) ?_; repeat (first | (with_reducible first | exact HB.out | apply below_alloc | apply pw_below_drewN | apply below_drew1 | refine below_set ?_ (IsS53.ge HI0.out) | refine below_set ?_ GE121.out) | exact HB.out))); rintro e w10 ⟨rfl, hb⟩; refine ⟨_, rfl, ?_⟩; replace BK121 := Aside0.mk (zL BK121 hb); replace HK := Aside0.mk (KeepBut.trans (by repeat (first | (with_reducible first | exact HK.out | apply KeepBut.set_ | apply keep_drewN | apply keep_drew | apply keep_alloc | refine keep_far ?_ GW121.out _) | exact HK.out)) (KeepBut.of_below hb g none) (.inl rfl)); replace HB := Aside0.mk (below_step (by repeat (first | (with_reducible first | exact HB.out | apply below_alloc | apply pw_below_drewN | apply below_drew1 | refine below_set ?_ (IsS53.ge HI0.out) | refine below_set ?_ GE121.out) | exact HB.out)) hb); replace HI0 := Aside0.mk (IsS53.below (by repeat (first | (with_reducible first | exact HI0.out | apply IsS53.alloc | apply IsS53.drewN | apply IsS53.drew | refine IsS53.putAt ?_ rfl rfl (by assumption) (by assumption) | apply IsS53.putAll | refine IsS53.far ?_ NB0_121.out _) | exact HI0.out)) hb); (try clear hb); (try clear hb2); (try clear hk); (try clear hi); obtain ⟨hcz11_0, hcz11_1, hcz11_2⟩ := zc3 BK121; obtain ⟨hfz11_0, hfz11_1, hfz11_2⟩ := zf3 BK121) | ((with_reducible refine gate_callee (f := 20) rfl ?_); refine zG (some 17) Tryd.func20 #[.agg #[.string a1_0, .int .u16 a1_1, .int .u32 a1_2]] ?_; (with_reducible refine (gate_zero.calls a1_0 a1_1 a1_2 true _ A5.out).mono ?_); rintro e w12 ⟨rfl, hb⟩; refine ⟨_, rfl, ?_⟩; replace BK121 := Aside0.mk (zL BK121 hb); replace HK := Aside0.mk (KeepBut.trans (by repeat (first | (with_reducible first | exact HK.out | apply KeepBut.set_ | apply keep_drewN | apply keep_drew | apply keep_alloc | refine keep_far ?_ GW121.out _) | exact HK.out)) (KeepBut.of_below hb g none) (.inl rfl)); replace HB := Aside0.mk (below_step (by repeat (first | (with_reducible first | exact HB.out | apply below_alloc | apply pw_below_drewN | apply below_drew1 | refine below_set ?_ (IsS53.ge HI0.out) | refine below_set ?_ GE121.out) | exact HB.out)) hb); replace HI0 := Aside0.mk (IsS53.below (by repeat (first | (with_reducible first | exact HI0.out | apply IsS53.alloc | apply IsS53.drewN | apply IsS53.drew | refine IsS53.putAt ?_ rfl rfl (by assumption) (by assumption) | apply IsS53.putAll | refine IsS53.far ?_ NB0_121.out _) | exact HI0.out)) hb); (try clear hb); (try clear hb2); (try clear hk); (try clear hi)))
      go_ret2
      exact ⟨zF, by repeat (first | (with_reducible first | exact HI0.out | apply IsS53.alloc | apply IsS53.drewN | apply IsS53.drew | refine IsS53.putAt ?_ rfl rfl (by assumption) (by assumption) | apply IsS53.putAll | refine IsS53.far ?_ NB0_121.out _) | exact HI0.out), by repeat (first | (with_reducible first | exact HB.out | apply below_alloc | apply pw_below_drewN | apply below_drew1 | refine below_set ?_ (IsS53.ge HI0.out) | refine below_set ?_ GE121.out) | exact HB.out), by repeat (first | (with_reducible first | exact HK.out | apply KeepBut.set_ | apply keep_drewN | apply keep_drew | apply keep_alloc | refine keep_far ?_ GW121.out _) | exact HK.out)⟩
    · replace c6 := Bool.eq_false_iff.mpr c6
      subst c6
      replace H := zU H
      have HC13 := Aside0.mk H
      clear H
      go_enter Tryd.func9, Tryd.ntmps9
      go_upto_region 7 with (first | ((with_reducible refine gate_dst (N := 3) rfl ?_); refine zX (N := 3) (cs := #[.string a1_0, .int .u16 a1_1, .int .u32 a1_2]) (t := 31) ?_ ?_; (focus first | (go_simp; done) | (go_simp; rfl)); intro gb121 hg w14 hbox hb; have BK121 := Aside0.mk (hbox); have GW121 := Aside0.mk ((by rw [hg]; exact (keep_size (w := w) (g := g) (row := none) (by repeat (first | (with_reducible first | exact HK.out | apply KeepBut.set_ | apply keep_drewN | apply keep_drew | apply keep_alloc) | exact HK.out))) : w.heap.size ≤ gb121)); have GE121 := Aside0.mk ((Nat.le_trans HW0.out (by rw [hg]; exact (keep_size (w := w) (g := g) (row := none) (by repeat (first | (with_reducible first | exact HK.out | apply KeepBut.set_ | apply keep_drewN | apply keep_drew | apply keep_alloc) | exact HK.out))) : w.heap.size ≤ gb121) : w0.heap.size ≤ gb121)); have NB0_121 := Aside0.mk ((by rw [hg]; exact Nat.ne_of_lt (IsS53.lt (show IsS53 w0 _ g s0_0 from by repeat (first | (with_reducible first | exact HI0.out | apply IsS53.alloc | apply IsS53.drewN | apply IsS53.drew | refine IsS53.putAt ?_ rfl rfl (by assumption) (by assumption) | apply IsS53.putAll) | exact HI0.out))) : g ≠ gb121)); have NB121_0 := Aside0.mk ((by rw [hg]; exact Nat.ne_of_gt (IsS53.lt (show IsS53 w0 _ g s0_0 from by repeat (first | (with_reducible first | exact HI0.out | apply IsS53.alloc | apply IsS53.drewN | apply IsS53.drew | refine IsS53.putAt ?_ rfl rfl (by assumption) (by assumption) | apply IsS53.putAll) | exact HI0.out))) : gb121 ≠ g)); replace HK := Aside0.mk (KeepBut.trans (by repeat (first | (with_reducible first | exact HK.out | apply KeepBut.set_ | apply keep_drewN | apply keep_drew | apply keep_alloc) | exact HK.out)) (KeepBut.of_below hb g none) (.inl rfl)); replace HB := Aside0.mk (below_step (by repeat (first | (with_reducible first | exact HB.out | apply below_alloc | apply pw_below_drewN | apply below_drew1 | refine below_set ?_ (IsS53.ge HI0.out)) | exact HB.out)) hb); replace HI0 := Aside0.mk (IsS53.below (by repeat (first | (with_reducible first | exact HI0.out | apply IsS53.alloc | apply IsS53.drewN | apply IsS53.drew | refine IsS53.putAt ?_ rfl rfl (by assumption) (by assumption) | apply IsS53.putAll) | exact HI0.out)) hb); clear hb hbox hg; have hnb15 := NB121_0.out; have hnc15 := NB0_121.out; obtain ⟨hcz16_0, hcz16_1, hcz16_2⟩ := zc3 BK121; obtain ⟨hfz16_0, hfz16_1, hfz16_2⟩ := zf3 BK121) | ((with_reducible refine gate_callee (f := 19) rfl ?_); refine zG (some 13) Tryd.func19 #[.string a1_0] ?_; (with_reducible refine (name_Check.calls k a1_0 t122 _ A3.out ?side1).mono ?_); (case side1 => first | exact hG_ | exact hG_.g | (refine Glob.below (by first | exact hG_ | exact hG_.g) ?_; repeat (first | (with_reducible first | exact HB.out | apply below_alloc | apply pw_below_drewN | apply below_drew1 | refine below_set ?_ (IsS53.ge HI0.out) | refine below_set ?_ GE121.out) | exact HB.out))); rintro e w17 ⟨rfl, hb⟩; refine ⟨_, rfl, ?_⟩; replace BK121 := Aside0.mk (zL BK121 hb); replace HK := Aside0.mk (KeepBut.trans (by repeat (first | (with_reducible first | exact HK.out | apply KeepBut.set_ | apply keep_drewN | apply keep_drew | apply keep_alloc | refine keep_far ?_ GW121.out _) | exact HK.out)) (KeepBut.of_below hb g none) (.inl rfl)); replace HB := Aside0.mk (below_step (by repeat (first | (with_reducible first | exact HB.out | apply below_alloc | apply pw_below_drewN | apply below_drew1 | refine below_set ?_ (IsS53.ge HI0.out) | refine below_set ?_ GE121.out) | exact HB.out)) hb); replace HI0 := Aside0.mk (IsS53.below (by repeat (first | (with_reducible first | exact HI0.out | apply IsS53.alloc | apply IsS53.drewN | apply IsS53.drew | refine IsS53.putAt ?_ rfl rfl (by assumption) (by assumption) | apply IsS53.putAll | refine IsS53.far ?_ NB0_121.out _) | exact HI0.out)) hb); (try clear hb); (try clear hb2); (try clear hk); (try clear hi); obtain ⟨hcz18_0, hcz18_1, hcz18_2⟩ := zc3 BK121; obtain ⟨hfz18_0, hfz18_1, hfz18_2⟩ := zf3 BK121) | ((with_reducible refine gate_callee (f := 20) rfl ?_); refine zG (some 17) Tryd.func20 #[.agg #[.string a1_0, .int .u16 a1_1, .int .u32 a1_2]] ?_; (with_reducible refine (gate_zero.calls a1_0 a1_1 a1_2 false _ A5.out).mono ?_); rintro e w19 ⟨rfl, hb⟩; refine ⟨_, rfl, ?_⟩; replace BK121 := Aside0.mk (zL BK121 hb); replace HK := Aside0.mk (KeepBut.trans (by repeat (first | (with_reducible first | exact HK.out | apply KeepBut.set_ | apply keep_drewN | apply keep_drew | apply keep_alloc | refine keep_far ?_ GW121.out _) | exact HK.out)) (KeepBut.of_below hb g none) (.inl rfl)); replace HB := Aside0.mk (below_step (by repeat (first | (with_reducible first | exact HB.out | apply below_alloc | apply pw_below_drewN | apply below_drew1 | refine below_set ?_ (IsS53.ge HI0.out) | refine below_set ?_ GE121.out) | exact HB.out)) hb); replace HI0 := Aside0.mk (IsS53.below (by repeat (first | (with_reducible first | exact HI0.out | apply IsS53.alloc | apply IsS53.drewN | apply IsS53.drew | refine IsS53.putAt ?_ rfl rfl (by assumption) (by assumption) | apply IsS53.putAll | refine IsS53.far ?_ NB0_121.out _) | exact HI0.out)) hb); (try clear hb); (try clear hb2); (try clear hk); (try clear hi)))
      (try simp only [Act.put, List.setIfInBounds_toArray, List.set_cons_zero, List.set_cons_succ])
      go_cut [18] (fun v18 wc => ∃ (kq : Nat) (x18_12 : Bool) (x1000_12 : AR51), v18 = .bool x18_12 ∧ Aside0 (gate_Table_Open.j0 kq x18_12 x1000_12 a1_0 a1_1 a1_2 = some (r1, r2, r3)) ∧ Aside0 (kq ≤ k) ∧ Aside0 (wc.heap[gb121]? = some (.cells #[.string a1_0, .int .u16 a1_1, .int .u32 a1_2] 31 (0, 0))) ∧ Aside0 (IsS53 w0 wc g x1000_12) ∧ Aside0 (KeepBut w wc g none) ∧ Aside0 (Below w0.heap.size w0 wc))
      case first =>
        have H := HC13.out
        clear HC13
        replace H := Option.bind_eq_some_iff.mp H
        obtain ⟨⟨t124, t125⟩, A200, H⟩ := H
        replace H : (if t124 ≥ 0 then (gate_Table_Open.j0 k true t125 a1_0 a1_1 a1_2) else ((gate_Table_owned.f t125 a1_1).bind fun bt126 => (gate_Table_Open.j0 k bt126.1 bt126.2 a1_0 a1_1 a1_2))) = some (r1, r2, r3) := H
        have A20 := Aside0.mk A200
        clear A200
        by_cases c21 : t124 ≥ 0
        · rw [if_pos c21] at H
          have c21b0 : decide (0 ≤ t124) = true := decide_eq_true c21
          clear c21
          (first | rw [c21b0] | (simp only [i64_w, i32_w]; rw [c21b0]) | skip)
          have H' := Aside0.mk H
          clear H
          have hnb22 := NB121_0.out
          have hnc22 := NB0_121.out
          obtain ⟨hcz23_0, hcz23_1, hcz23_2⟩ := zc3 BK121
          obtain ⟨hfz23_0, hfz23_1, hfz23_2⟩ := zf3 BK121
          go_wp2_with (first | ((with_reducible refine gate_callee (f := 21) rfl ?_); refine zG (some 22) Tryd.func21 #[.pointer (some ⟨g, 0, none⟩), .string a1_0] ?_; (with_reducible refine (gate_Table_of.calls g s0_0 a1_0 t124 t125 w0 _ ?side1 ?side2 A20.out).mono ?_); (case side1 => repeat (first | (with_reducible first | exact HI0.out | apply IsS53.alloc | apply IsS53.drewN | apply IsS53.drew | refine IsS53.putAt ?_ rfl rfl (by assumption) (by assumption) | apply IsS53.putAll | refine IsS53.far ?_ NB0_121.out _) | exact HI0.out)); (case side2 => repeat (first | (with_reducible first | exact HB.out | apply below_alloc | apply pw_below_drewN | apply below_drew1 | refine below_set ?_ (IsS53.ge HI0.out) | refine below_set ?_ GE121.out) | exact HB.out)); rintro e w24 ⟨rfl, hi, hb, hk⟩; refine ⟨_, rfl, ?_⟩; replace BK121 := Aside0.mk (KeepBut.blk hk (g' := gb121) (o := .cells #[.string a1_0, .int .u16 a1_1, .int .u32 a1_2] 31 (0, 0)) zK NB121_0.out (by simp)); replace HK := Aside0.mk (KeepBut.trans (by repeat (first | (with_reducible first | exact HK.out | apply KeepBut.set_ | apply keep_drewN | apply keep_drew | apply keep_alloc | refine keep_far ?_ GW121.out _) | exact HK.out)) hk (.inl rfl)); replace HI0 := Aside0.mk (hi); replace HB := Aside0.mk (hb); (try clear hb); (try clear hb2); (try clear hk); (try clear hi)))
          go_meet
          case rel => exact ⟨_, (true), (t125), (zE), H', ⟨by first | omega | exact Nat.le_refl _⟩, ⟨zK⟩, ⟨by repeat (first | (with_reducible first | exact HI0.out | apply IsS53.alloc | apply IsS53.drewN | apply IsS53.drew | refine IsS53.putAt ?_ rfl rfl (by assumption) (by assumption) | apply IsS53.putAll | refine IsS53.far ?_ NB0_121.out _) | exact HI0.out)⟩, ⟨by repeat (first | (with_reducible first | exact HK.out | apply KeepBut.set_ | apply keep_drewN | apply keep_drew | apply keep_alloc | refine keep_far ?_ GW121.out _) | exact HK.out)⟩, ⟨by repeat (first | (with_reducible first | exact HB.out | apply below_alloc | apply pw_below_drewN | apply below_drew1 | refine below_set ?_ (IsS53.ge HI0.out) | refine below_set ?_ GE121.out) | exact HB.out)⟩⟩
        · rw [if_neg c21] at H
          have c21b0 : decide (0 ≤ t124) = false := decide_eq_false c21
          clear c21
          (first | rw [c21b0] | (simp only [i64_w, i32_w]; rw [c21b0]) | skip)
          replace H := Option.bind_eq_some_iff.mp H
          obtain ⟨⟨t126, t127⟩, A250, H⟩ := H
          replace H : (gate_Table_Open.j0 k t126 t127 a1_0 a1_1 a1_2) = some (r1, r2, r3) := H
          have A25 := Aside0.mk A250
          clear A250
          have H' := Aside0.mk H
          clear H
          have hnb26 := NB121_0.out
          have hnc26 := NB0_121.out
          obtain ⟨hcz27_0, hcz27_1, hcz27_2⟩ := zc3 BK121
          obtain ⟨hfz27_0, hfz27_1, hfz27_2⟩ := zf3 BK121
          go_wp2_with (first | ((with_reducible refine gate_callee (f := 21) rfl ?_); refine zG (some 22) Tryd.func21 #[.pointer (some ⟨g, 0, none⟩), .string a1_0] ?_; (with_reducible refine (gate_Table_of.calls g s0_0 a1_0 t124 t125 w0 _ ?side1 ?side2 A20.out).mono ?_); (case side1 => repeat (first | (with_reducible first | exact HI0.out | apply IsS53.alloc | apply IsS53.drewN | apply IsS53.drew | refine IsS53.putAt ?_ rfl rfl (by assumption) (by assumption) | apply IsS53.putAll | refine IsS53.far ?_ NB0_121.out _) | exact HI0.out)); (case side2 => repeat (first | (with_reducible first | exact HB.out | apply below_alloc | apply pw_below_drewN | apply below_drew1 | refine below_set ?_ (IsS53.ge HI0.out) | refine below_set ?_ GE121.out) | exact HB.out)); rintro e w28 ⟨rfl, hi, hb, hk⟩; refine ⟨_, rfl, ?_⟩; replace BK121 := Aside0.mk (KeepBut.blk hk (g' := gb121) (o := .cells #[.string a1_0, .int .u16 a1_1, .int .u32 a1_2] 31 (0, 0)) zK NB121_0.out (by simp)); replace HK := Aside0.mk (KeepBut.trans (by repeat (first | (with_reducible first | exact HK.out | apply KeepBut.set_ | apply keep_drewN | apply keep_drew | apply keep_alloc | refine keep_far ?_ GW121.out _) | exact HK.out)) hk (.inl rfl)); replace HI0 := Aside0.mk (hi); replace HB := Aside0.mk (hb); (try clear hb); (try clear hb2); (try clear hk); (try clear hi); obtain ⟨hcz29_0, hcz29_1, hcz29_2⟩ := zc3 BK121; obtain ⟨hfz29_0, hfz29_1, hfz29_2⟩ := zf3 BK121) | (go_at_call 22; (with_reducible refine (gate_Table_owned.calls g t125 a1_1 t126 t127 w0 _ ?side1 ?side2 A25.out).mono ?_); (case side1 => repeat (first | (with_reducible first | exact HI0.out | apply IsS53.alloc | apply IsS53.drewN | apply IsS53.drew | refine IsS53.putAt ?_ rfl rfl (by assumption) (by assumption) | apply IsS53.putAll | refine IsS53.far ?_ NB0_121.out _) | exact HI0.out)); (case side2 => repeat (first | (with_reducible first | exact HB.out | apply below_alloc | apply pw_below_drewN | apply below_drew1 | refine below_set ?_ (IsS53.ge HI0.out) | refine below_set ?_ GE121.out) | exact HB.out)); rintro e w30 ⟨rfl, hi, hb, hk⟩; replace BK121 := Aside0.mk (KeepBut.blk hk (g' := gb121) (o := .cells #[.string a1_0, .int .u16 a1_1, .int .u32 a1_2] 31 (0, 0)) zK NB121_0.out (by simp)); replace HK := Aside0.mk (KeepBut.trans (by repeat (first | (with_reducible first | exact HK.out | apply KeepBut.set_ | apply keep_drewN | apply keep_drew | apply keep_alloc | refine keep_far ?_ GW121.out _) | exact HK.out)) hk (.inl rfl)); replace HI0 := Aside0.mk (hi); replace HB := Aside0.mk (hb); (try clear hb); (try clear hb2); (try clear hk); (try clear hi)))
          go_meet
          case rel => exact ⟨_, (t126), (t127), (zE), H', ⟨by first | omega | exact Nat.le_refl _⟩, ⟨zK⟩, ⟨by repeat (first | (with_reducible first | exact HI0.out | apply IsS53.alloc | apply IsS53.drewN | apply IsS53.drew | refine IsS53.putAt ?_ rfl rfl (by assumption) (by assumption) | apply IsS53.putAll | refine IsS53.far ?_ NB0_121.out _) | exact HI0.out)⟩, ⟨by repeat (first | (with_reducible first | exact HK.out | apply KeepBut.set_ | apply keep_drewN | apply keep_drew | apply keep_alloc | refine keep_far ?_ GW121.out _) | exact HK.out)⟩, ⟨by repeat (first | (with_reducible first | exact HB.out | apply below_alloc | apply pw_below_drewN | apply below_drew1 | refine below_set ?_ (IsS53.ge HI0.out) | refine below_set ?_ GE121.out) | exact HB.out)⟩⟩
      case rest =>
        clear HC13
        try clear c1
        try clear c2
        try clear p2
        try clear c4
        try clear c4b0
        try clear c4b1
        try clear c6
        try clear c8
        try clear c9
        try clear c15
        try clear c19
        try clear c20
        try clear c21
        try clear c21b0
        try clear c22
        try clear c26
        try clear hcz11_0 hcz11_1 hcz11_2
        try clear hcz16_0 hcz16_1 hcz16_2
        try clear hcz18_0 hcz18_1 hcz18_2
        try clear hcz23_0 hcz23_1 hcz23_2
        try clear hcz27_0 hcz27_1 hcz27_2
        try clear hcz29_0 hcz29_1 hcz29_2
        try clear hcz9_0 hcz9_1 hcz9_2
        try clear hfz11_0 hfz11_1 hfz11_2
        try clear hfz16_0 hfz16_1 hfz16_2
        try clear hfz18_0 hfz18_1 hfz18_2
        try clear hfz23_0 hfz23_1 hfz23_2
        try clear hfz27_0 hfz27_1 hfz27_2
        try clear hfz29_0 hfz29_1 hfz29_2
        try clear hfz9_0 hfz9_1 hfz9_2
        obtain ⟨kq, x18_12, x1000_12, rfl, HA, HJ12, BK121, HI0, HK, HB⟩ := hcut
        cases kq with
        | zero => exact absurd HA.out (by simp [gate_Table_Open.j0])
        | succ kj12 =>
          have H := HA.out
          clear HA
          simp only [gate_Table_Open.j0] at H
          by_cases c31 : x18_12 = true
          · subst c31
            replace H := zT H
            simp only [Option.some.injEq, Prod.mk.injEq] at H
            obtain ⟨rfl, rfl, rfl⟩ := H
            go_wp2
            go_ret2
            exact ⟨zF, by repeat (first | (with_reducible first | exact HI0.out | apply IsS53.alloc | apply IsS53.drewN | apply IsS53.drew | refine IsS53.putAt ?_ rfl rfl (by assumption) (by assumption) | apply IsS53.putAll | refine IsS53.far ?_ NB0_121.out _) | exact HI0.out), by repeat (first | (with_reducible first | exact HB.out | apply below_alloc | apply pw_below_drewN | apply below_drew1 | refine below_set ?_ (IsS53.ge HI0.out) | refine below_set ?_ GE121.out) | exact HB.out), by repeat (first | (with_reducible first | exact HK.out | apply KeepBut.set_ | apply keep_drewN | apply keep_drew | apply keep_alloc | refine keep_far ?_ GW121.out _) | exact HK.out)⟩
          · replace c31 := Bool.eq_false_iff.mpr c31
            subst c31
            replace H := zU H
            replace H := Option.bind_eq_some_iff.mp H
            obtain ⟨⟨t128, t129⟩, A320, H⟩ := H
            replace H : (if t128 < 0 then (some (0, 28, t129)) else (if 0 ≤ t128 then (if t128 < 8 then (some (t128, 0, (AR51.up t129 t128 (⟨a1_0, a1_1, a1_2⟩ : S31)))) else (none)) else (none))) = some (r1, r2, r3) := H
            have A32 := Aside0.mk A320
            clear A320
            by_cases c33 : t128 < 0
            · rw [if_pos c33] at H
              have c33b0 : decide (t128 < 0) = true := decide_eq_true c33
              clear c33
              simp only [Option.some.injEq, Prod.mk.injEq] at H
              obtain ⟨rfl, rfl, rfl⟩ := H
              go_wp2_with (first | ((with_reducible refine gate_callee (f := 23) rfl ?_); refine zG (some 31) Tryd.func23 #[.pointer (some ⟨g, 0, none⟩), .func (.func 24) #[] #[]] ?_; (with_reducible refine (gt_free.calls g x1000_12  t128 t129 w0 _ ?side1 ?side2 A32.out).mono ?_); (case side1 => repeat (first | (with_reducible first | exact HI0.out | apply IsS53.alloc | apply IsS53.drewN | apply IsS53.drew | refine IsS53.putAt ?_ rfl rfl (by assumption) (by assumption) | apply IsS53.putAll | refine IsS53.far ?_ NB0_121.out _) | exact HI0.out)); (case side2 => repeat (first | (with_reducible first | exact HB.out | apply below_alloc | apply pw_below_drewN | apply below_drew1 | refine below_set ?_ (IsS53.ge HI0.out) | refine below_set ?_ GE121.out) | exact HB.out)); rintro e w34 ⟨rfl, hi, hb, hk⟩; refine ⟨_, rfl, ?_⟩; replace BK121 := Aside0.mk (KeepBut.blk hk (g' := gb121) (o := .cells #[.string a1_0, .int .u16 a1_1, .int .u32 a1_2] 31 (0, 0)) zK NB121_0.out (by simp)); replace HK := Aside0.mk (KeepBut.trans (by repeat (first | (with_reducible first | exact HK.out | apply KeepBut.set_ | apply keep_drewN | apply keep_drew | apply keep_alloc | refine keep_far ?_ GW121.out _) | exact HK.out)) hk (.inl rfl)); replace HI0 := Aside0.mk (hi); replace HB := Aside0.mk (hb); (try clear hb); (try clear hb2); (try clear hk); (try clear hi)))
              go_ret2
              exact ⟨zF, by repeat (first | (with_reducible first | exact HI0.out | apply IsS53.alloc | apply IsS53.drewN | apply IsS53.drew | refine IsS53.putAt ?_ rfl rfl (by assumption) (by assumption) | apply IsS53.putAll | refine IsS53.far ?_ NB0_121.out _) | exact HI0.out), by repeat (first | (with_reducible first | exact HB.out | apply below_alloc | apply pw_below_drewN | apply below_drew1 | refine below_set ?_ (IsS53.ge HI0.out) | refine below_set ?_ GE121.out) | exact HB.out), by repeat (first | (with_reducible first | exact HK.out | apply KeepBut.set_ | apply keep_drewN | apply keep_drew | apply keep_alloc | refine keep_far ?_ GW121.out _) | exact HK.out)⟩
            · rw [if_neg c33] at H
              have c33b0 : decide (t128 < 0) = false := decide_eq_false c33
              clear c33
              by_cases c35 : 0 ≤ t128
              · rw [if_pos c35] at H
                have c35b0 : decide (0 ≤ t128) = true := decide_eq_true c35
                clear c35
                by_cases c36 : t128 < 8
                · rw [if_pos c36] at H
                  have c36b0 : decide (t128 < 8) = true := decide_eq_true c36
                  clear c36
                  simp only [Option.some.injEq, Prod.mk.injEq] at H
                  obtain ⟨rfl, rfl, rfl⟩ := H
                  try go_wp2_with (first | ((with_reducible refine gate_callee (f := 23) rfl ?_); refine zG (some 31) Tryd.func23 #[.pointer (some ⟨g, 0, none⟩), .func (.func 24) #[] #[]] ?_; (with_reducible refine (gt_free.calls g x1000_12  t128 t129 w0 _ ?side1 ?side2 A32.out).mono ?_); (case side1 => repeat (first | (with_reducible first | exact HI0.out | apply IsS53.alloc | apply IsS53.drewN | apply IsS53.drew | refine IsS53.putAt ?_ rfl rfl (by assumption) (by assumption) | apply IsS53.putAll | refine IsS53.far ?_ NB0_121.out _) | exact HI0.out)); (case side2 => repeat (first | (with_reducible first | exact HB.out | apply below_alloc | apply pw_below_drewN | apply below_drew1 | refine below_set ?_ (IsS53.ge HI0.out) | refine below_set ?_ GE121.out) | exact HB.out)); rintro e w37 ⟨rfl, hi, hb, hk⟩; refine ⟨_, rfl, ?_⟩; replace BK121 := Aside0.mk (KeepBut.blk hk (g' := gb121) (o := .cells #[.string a1_0, .int .u16 a1_1, .int .u32 a1_2] 31 (0, 0)) zK NB121_0.out (by simp)); replace HK := Aside0.mk (KeepBut.trans (by repeat (first | (with_reducible first | exact HK.out | apply KeepBut.set_ | apply keep_drewN | apply keep_drew | apply keep_alloc | refine keep_far ?_ GW121.out _) | exact HK.out)) hk (.inl rfl)); replace HI0 := Aside0.mk (hi); replace HB := Aside0.mk (hb); (try clear hb); (try clear hb2); (try clear hk); (try clear hi)))
                  have n0_ := Aside0.mk (blk_drew BK121.out)
                  have n1_ := Aside0.mk (IsS53.drew HI0.out)
                  have n2_ := Aside0.mk (keep_drew HK.out)
                  have n3_ := Aside0.mk (below_drew1 HB.out)
                  clear BK121
                  clear HI0
                  clear HK
                  clear HB
                  have BK121 := n0_
                  have HI0 := n1_
                  have HK := n2_
                  have HB := n3_
                  clear n0_ n1_ n2_ n3_
                  have hloi39 : (0 : Int) ≤ t128 := of_decide_eq_true (by first | (with_reducible assumption) | assumption)
                  have hhii39 : t128 < (8 : Int) := of_decide_eq_true (by first | (with_reducible assumption) | assumption)
                  refine start_ (n := 7) (S := fun w' => w'.cell? ⟨gb121, 0, none⟩ = some (.string a1_0) ∧ w'.cell? ⟨gb121, 1, none⟩ = some (.int .u16 a1_1) ∧ w'.cell? ⟨gb121, 2, none⟩ = some (.int .u32 a1_2)) (ds := []) #[false, false, false, false, false, false, false] (by kernel_rfl) rfl rfl ⟨(blk_cell BK121.out 0).trans rfl, (blk_cell BK121.out 1).trans rfl, (blk_cell BK121.out 2).trans rfl⟩ (fun hHeld => ?_)
                  generalize w37.drew = w38 at BK121 HI0 HK HB hHeld ⊢
                  refine pure_ (i := 0) (N := some 34) (v := ?_) (a' := ?_) #[true, false, false, false, false, false, false] rfl rfl (by kernel_rfl) (fun _ _ _ h => h) (Or.inl ⟨by rfl, ?_⟩) ?_ ?_
                  rotate_left
                  · exact zY
                  rotate_left
                  · exact zA
                  refine pure_ (i := 1) (N := some 35) (v := ?_) (a' := ?_) #[true, true, false, false, false, false, false] rfl rfl (by kernel_rfl) (fun _ _ _ h => h) (Or.inl ⟨by rfl, ?_⟩) ?_ ?_
                  rotate_left
                  · exact zY
                  rotate_left
                  · exact zA
                  refine pure_ (i := 3) (N := some 37) (v := ?_) (a' := ?_) #[true, true, false, true, false, false, false] rfl rfl (by kernel_rfl) (fun _ _ _ h => h) (Or.inl ⟨by rfl, ?_⟩) ?_ ?_
                  rotate_left
                  · exact zY
                  rotate_left
                  · exact zA
                  refine pure_ (i := 4) (N := some 38) (v := ?_) (a' := ?_) #[true, true, false, true, true, false, false] rfl rfl (by kernel_rfl) (fun _ _ _ h => h) (Or.inl ⟨by rfl, ?_⟩) ?_ ?_
                  rotate_left
                  · exact zY
                  rotate_left
                  · exact zA
                  refine take_ (i := 2) (N := some 36) (v := ?_) (a' := ?_) #[true, true, true, true, true, false, false] rfl rfl (by kernel_rfl) (fun _ _ _ h => h) (Or.inl ⟨by rfl, ?_⟩) hHeld ?_ ?_
                  rotate_left
                  · rintro w' ⟨s0, s1, s2⟩
                    go_simp
                    with_reducible rfl
                  rotate_left
                  · exact zA
                  refine pure_ (i := 5) (N := some 39) (v := ?_) (a' := ?_) #[true, true, true, true, true, true, false] rfl rfl (by kernel_rfl) (fun _ _ _ h => h) (Or.inl ⟨by rfl, ?_⟩) ?_ ?_
                  rotate_left
                  · exact zY
                  rotate_left
                  · exact zA
                  refine one_ (i := 6) (N := none) #[true, true, true, true, true, true, true] rfl rfl (by kernel_rfl) (by decide) (fun K hK => ?_)
                  obtain ⟨hs40_0, hs40_1, hs40_2⟩ := AR51.at_ (show IsS53 w0 _ g t129 from by repeat (first | (with_reducible first | exact HI0.out | apply IsS53.alloc | apply IsS53.drewN | apply IsS53.drew | refine IsS53.putAt ?_ rfl rfl (by assumption) (by assumption) | apply IsS53.putAll | refine IsS53.far ?_ NB0_121.out _) | exact HI0.out)).1 t128 (of_decide_eq_true (by first | (with_reducible assumption) | assumption)) (of_decide_eq_true (by first | (with_reducible assumption) | assumption))
                  obtain ⟨hfs40_0, hfs40_1, hfs40_2⟩ := AR51.fz (show IsS53 w0 _ g t129 from by repeat (first | (with_reducible first | exact HI0.out | apply IsS53.alloc | apply IsS53.drewN | apply IsS53.drew | refine IsS53.putAt ?_ rfl rfl (by assumption) (by assumption) | apply IsS53.putAll | refine IsS53.far ?_ NB0_121.out _) | exact HI0.out)).1 t128
                  have hns40_0 := NB121_0.out
                  have hms40_0 := NB0_121.out
                  refine skip_ (w1 := ?_) (by rfl) rfl ?_ ?_
                  rotate_left
                  · go_simp
                    rfl
                  refine hK.out _ _ ⟨(zh3 (Ne.symm NB0_121.out) hHeld.1), (zh3 (Ne.symm NB0_121.out) hHeld.2.1), (zh3 (Ne.symm NB0_121.out) hHeld.2.2)⟩ (fun hHeld => ?_)
                  clear hK K
                  refine done_ (by kernel_rfl) ?_
                  try go_wp2
                  go_ret2
                  exact ⟨zF, by repeat (first | (with_reducible first | exact HI0.out | apply IsS53.alloc | apply IsS53.drewN | apply IsS53.drew | refine IsS53.putAt ?_ rfl rfl (by assumption) (by assumption) | apply IsS53.putAll | refine IsS53.far ?_ NB0_121.out _) | exact HI0.out), by repeat (first | (with_reducible first | exact HB.out | apply below_alloc | apply pw_below_drewN | apply below_drew1 | refine below_set ?_ (IsS53.ge HI0.out) | refine below_set ?_ GE121.out) | exact HB.out), by repeat (first | (with_reducible first | exact HK.out | apply KeepBut.set_ | apply keep_drewN | apply keep_drew | apply keep_alloc | refine keep_far ?_ GW121.out _) | exact HK.out)⟩
                · rw [if_neg c36] at H
                  exact absurd H (by simp)
              · rw [if_neg c35] at H
                exact absurd H (by simp)
  · rw [if_neg c4] at H
    have c4b0 : (t122 == 0) = false := beq_eq_false_iff_ne.mpr c4
    have c4b1 : (t122 != 0) = true := bne_iff_ne.mpr c4
    simp only [Option.some.injEq, Prod.mk.injEq] at H
    obtain ⟨rfl, rfl, rfl⟩ := H
    go_enter Tryd.func9, Tryd.ntmps9
    go_wp2_with (first | ((with_reducible refine gate_dst (N := 3) rfl ?_); refine zX (N := 3) (cs := #[.string a1_0, .int .u16 a1_1, .int .u32 a1_2]) (t := 31) ?_ ?_; (focus first | (go_simp; done) | (go_simp; rfl)); intro gb121 hg w41 hbox hb; have BK121 := Aside0.mk (hbox); have GW121 := Aside0.mk ((by rw [hg]; exact (keep_size (w := w) (g := g) (row := none) (by repeat (first | (with_reducible first | exact HK.out | apply KeepBut.set_ | apply keep_drewN | apply keep_drew | apply keep_alloc) | exact HK.out))) : w.heap.size ≤ gb121)); have GE121 := Aside0.mk ((Nat.le_trans HW0.out (by rw [hg]; exact (keep_size (w := w) (g := g) (row := none) (by repeat (first | (with_reducible first | exact HK.out | apply KeepBut.set_ | apply keep_drewN | apply keep_drew | apply keep_alloc) | exact HK.out))) : w.heap.size ≤ gb121) : w0.heap.size ≤ gb121)); have NB0_121 := Aside0.mk ((by rw [hg]; exact Nat.ne_of_lt (IsS53.lt (show IsS53 w0 _ g s0_0 from by repeat (first | (with_reducible first | exact HI0.out | apply IsS53.alloc | apply IsS53.drewN | apply IsS53.drew | refine IsS53.putAt ?_ rfl rfl (by assumption) (by assumption) | apply IsS53.putAll) | exact HI0.out))) : g ≠ gb121)); have NB121_0 := Aside0.mk ((by rw [hg]; exact Nat.ne_of_gt (IsS53.lt (show IsS53 w0 _ g s0_0 from by repeat (first | (with_reducible first | exact HI0.out | apply IsS53.alloc | apply IsS53.drewN | apply IsS53.drew | refine IsS53.putAt ?_ rfl rfl (by assumption) (by assumption) | apply IsS53.putAll) | exact HI0.out))) : gb121 ≠ g)); replace HK := Aside0.mk (KeepBut.trans (by repeat (first | (with_reducible first | exact HK.out | apply KeepBut.set_ | apply keep_drewN | apply keep_drew | apply keep_alloc) | exact HK.out)) (KeepBut.of_below hb g none) (.inl rfl)); replace HB := Aside0.mk (below_step (by repeat (first | (with_reducible first | exact HB.out | apply below_alloc | apply pw_below_drewN | apply below_drew1 | refine below_set ?_ (IsS53.ge HI0.out)) | exact HB.out)) hb); replace HI0 := Aside0.mk (IsS53.below (by repeat (first | (with_reducible first | exact HI0.out | apply IsS53.alloc | apply IsS53.drewN | apply IsS53.drew | refine IsS53.putAt ?_ rfl rfl (by assumption) (by assumption) | apply IsS53.putAll) | exact HI0.out)) hb); clear hb hbox hg; have hnb42 := NB121_0.out; have hnc42 := NB0_121.out; obtain ⟨hcz43_0, hcz43_1, hcz43_2⟩ := zc3 BK121; obtain ⟨hfz43_0, hfz43_1, hfz43_2⟩ := zf3 BK121) | ((with_reducible refine gate_callee (f := 19) rfl ?_); refine zG (some 13) Tryd.func19 #[.string a1_0] ?_; (with_reducible refine (name_Check.calls k a1_0 t122 _ A3.out ?side1).mono ?_); (case side1 => first | exact hG_ | exact hG_.g | (refine Glob.below (by first | exact hG_ | exact hG_.g) ?_; repeat (first | (with_reducible first | exact HB.out | apply below_alloc | apply pw_below_drewN | apply below_drew1 | refine below_set ?_ (IsS53.ge HI0.out) | refine below_set ?_ GE121.out) | exact HB.out))); rintro e w44 ⟨rfl, hb⟩; refine ⟨_, rfl, ?_⟩; replace BK121 := Aside0.mk (zL BK121 hb); replace HK := Aside0.mk (KeepBut.trans (by repeat (first | (with_reducible first | exact HK.out | apply KeepBut.set_ | apply keep_drewN | apply keep_drew | apply keep_alloc | refine keep_far ?_ GW121.out _) | exact HK.out)) (KeepBut.of_below hb g none) (.inl rfl)); replace HB := Aside0.mk (below_step (by repeat (first | (with_reducible first | exact HB.out | apply below_alloc | apply pw_below_drewN | apply below_drew1 | refine below_set ?_ (IsS53.ge HI0.out) | refine below_set ?_ GE121.out) | exact HB.out)) hb); replace HI0 := Aside0.mk (IsS53.below (by repeat (first | (with_reducible first | exact HI0.out | apply IsS53.alloc | apply IsS53.drewN | apply IsS53.drew | refine IsS53.putAt ?_ rfl rfl (by assumption) (by assumption) | apply IsS53.putAll | refine IsS53.far ?_ NB0_121.out _) | exact HI0.out)) hb); (try clear hb); (try clear hb2); (try clear hk); (try clear hi)))
    go_ret2
    exact ⟨zF, by repeat (first | (with_reducible first | exact HI0.out | apply IsS53.alloc | apply IsS53.drewN | apply IsS53.drew | refine IsS53.putAt ?_ rfl rfl (by assumption) (by assumption) | apply IsS53.putAll | refine IsS53.far ?_ NB0_121.out _) | exact HI0.out), by repeat (first | (with_reducible first | exact HB.out | apply below_alloc | apply pw_below_drewN | apply below_drew1 | refine below_set ?_ (IsS53.ge HI0.out) | refine below_set ?_ GE121.out) | exact HB.out), by repeat (first | (with_reducible first | exact HK.out | apply KeepBut.set_ | apply keep_drewN | apply keep_drew | apply keep_alloc | refine keep_far ?_ GW121.out _) | exact HK.out)⟩

/-! ### gate_Table_Find: function 13 -/
set_option maxHeartbeats 8000000 in
set_option maxRecDepth 100000 in
theorem gate_Table_Find.calls (g : Nat) (s0_0 : AR51) (a1 : ByteArray) (r1 : Int) (r2 : ByteArray) (r3 : Int) (r4 : Int) (r5 : Int) (r6 : AR51) (w0 w : World) (hI : IsS53 w0 w g s0_0) (hB : Below w0.heap.size w0 w) (h : gate_Table_Find.f s0_0 a1 = some (r1, r2, r3, r4, r5, r6)) :
    Calls Tryd.prog 13 #[.pointer (some ⟨g, 0, none⟩), .string a1] w fun e w' => e = .returned (.tuple #[.int .i64 r1, .agg #[.string r2, .int .u16 r3, .int .u32 r4], .int .i64 r5]) ∧ IsS53 w0 w' g r6 ∧ Below w0.heap.size w0 w' ∧ KeepBut w w' g none := by
  have hu31 := Tryd.underlying31
  have HI0 := Aside0.mk hI
  have HK := Aside0.mk (KeepBut.refl w g none)
  have HL := Aside0.mk hB.size
  clear hI
  have HW0 := Aside0.mk hB.size
  have HB := Aside0.mk hB
  clear hB
  have H : ((gate_Table_of.f s0_0 a1).bind fun bt131 => (if bt131.1 < 0 then (some (0, (⟨#[]⟩ : ByteArray), 0, 0, 8, bt131.2)) else (if 0 ≤ bt131.1 then (if bt131.1 < 8 then (some (bt131.1, (AR51.rd bt131.2 bt131.1).f0, (AR51.rd bt131.2 bt131.1).f1, (AR51.rd bt131.2 bt131.1).f2, 0, bt131.2)) else (none)) else (none)))) = some (r1, r2, r3, r4, r5, r6) := h
  clear h
  replace H := Option.bind_eq_some_iff.mp H
  obtain ⟨⟨t131, t132⟩, A30, H⟩ := H
  replace H : (if t131 < 0 then (some (0, (⟨#[]⟩ : ByteArray), 0, 0, 8, t132)) else (if 0 ≤ t131 then (if t131 < 8 then (some (t131, (AR51.rd t132 t131).f0, (AR51.rd t132 t131).f1, (AR51.rd t132 t131).f2, 0, t132)) else (none)) else (none))) = some (r1, r2, r3, r4, r5, r6) := H
  have A3 := Aside0.mk A30
  clear A30
  by_cases c4 : t131 < 0
  · rw [if_pos c4] at H
    have c4b0 : decide (t131 < 0) = true := decide_eq_true c4
    clear c4
    simp only [Option.some.injEq, Prod.mk.injEq] at H
    obtain ⟨rfl, rfl, rfl, rfl, rfl, rfl⟩ := H
    go_enter Tryd.func13, Tryd.ntmps13
    go_wp2_with (first | ((with_reducible refine gate_dst (N := 5) rfl ?_); refine zX (N := 5) (cs := #[.string (⟨#[]⟩ : ByteArray), .int .u16 0, .int .u32 0]) (t := 31) ?_ ?_; (focus first | (go_simp; done) | (go_simp; rfl)); intro gb130 hg w5 hbox hb; have BK130 := Aside0.mk (hbox); have GW130 := Aside0.mk ((by rw [hg]; exact (keep_size (w := w) (g := g) (row := none) (by repeat (first | (with_reducible first | exact HK.out | apply KeepBut.set_ | apply keep_drewN | apply keep_drew | apply keep_alloc) | exact HK.out))) : w.heap.size ≤ gb130)); have GE130 := Aside0.mk ((Nat.le_trans HW0.out (by rw [hg]; exact (keep_size (w := w) (g := g) (row := none) (by repeat (first | (with_reducible first | exact HK.out | apply KeepBut.set_ | apply keep_drewN | apply keep_drew | apply keep_alloc) | exact HK.out))) : w.heap.size ≤ gb130) : w0.heap.size ≤ gb130)); have NB0_130 := Aside0.mk ((by rw [hg]; exact Nat.ne_of_lt (IsS53.lt (show IsS53 w0 _ g s0_0 from by repeat (first | (with_reducible first | exact HI0.out | apply IsS53.alloc | apply IsS53.drewN | apply IsS53.drew | refine IsS53.putAt ?_ rfl rfl (by assumption) (by assumption) | apply IsS53.putAll) | exact HI0.out))) : g ≠ gb130)); have NB130_0 := Aside0.mk ((by rw [hg]; exact Nat.ne_of_gt (IsS53.lt (show IsS53 w0 _ g s0_0 from by repeat (first | (with_reducible first | exact HI0.out | apply IsS53.alloc | apply IsS53.drewN | apply IsS53.drew | refine IsS53.putAt ?_ rfl rfl (by assumption) (by assumption) | apply IsS53.putAll) | exact HI0.out))) : gb130 ≠ g)); replace HK := Aside0.mk (KeepBut.trans (by repeat (first | (with_reducible first | exact HK.out | apply KeepBut.set_ | apply keep_drewN | apply keep_drew | apply keep_alloc) | exact HK.out)) (KeepBut.of_below hb g none) (.inl rfl)); replace HB := Aside0.mk (below_step (by repeat (first | (with_reducible first | exact HB.out | apply below_alloc | apply pw_below_drewN | apply below_drew1 | refine below_set ?_ (IsS53.ge HI0.out)) | exact HB.out)) hb); replace HI0 := Aside0.mk (IsS53.below (by repeat (first | (with_reducible first | exact HI0.out | apply IsS53.alloc | apply IsS53.drewN | apply IsS53.drew | refine IsS53.putAt ?_ rfl rfl (by assumption) (by assumption) | apply IsS53.putAll) | exact HI0.out)) hb); clear hb hbox hg) | ((with_reducible refine gate_callee (f := 21) rfl ?_); refine zG (some 13) Tryd.func21 #[.pointer (some ⟨g, 0, none⟩), .string a1] ?_; (with_reducible refine (gate_Table_of.calls g s0_0 a1 t131 t132 w0 _ ?side1 ?side2 A3.out).mono ?_); (case side1 => repeat (first | (with_reducible first | exact HI0.out | apply IsS53.alloc | apply IsS53.drewN | apply IsS53.drew | refine IsS53.putAt ?_ rfl rfl (by assumption) (by assumption) | apply IsS53.putAll | refine IsS53.far ?_ NB0_130.out _) | exact HI0.out)); (case side2 => repeat (first | (with_reducible first | exact HB.out | apply below_alloc | apply pw_below_drewN | apply below_drew1 | refine below_set ?_ (IsS53.ge HI0.out) | refine below_set ?_ GE130.out) | exact HB.out)); rintro e w6 ⟨rfl, hi, hb, hk⟩; refine ⟨_, rfl, ?_⟩; replace BK130 := Aside0.mk (KeepBut.blk hk (g' := gb130) (o := .cells #[.string (⟨#[]⟩ : ByteArray), .int .u16 0, .int .u32 0] 31 (0, 0)) zK NB130_0.out (by simp)); replace HK := Aside0.mk (KeepBut.trans (by repeat (first | (with_reducible first | exact HK.out | apply KeepBut.set_ | apply keep_drewN | apply keep_drew | apply keep_alloc | refine keep_far ?_ GW130.out _) | exact HK.out)) hk (.inl rfl)); replace HI0 := Aside0.mk (hi); replace HB := Aside0.mk (hb); (try clear hb); (try clear hb2); (try clear hk); (try clear hi); have hnb7 := NB130_0.out; have hnc7 := NB0_130.out; obtain ⟨hcz8_0, hcz8_1, hcz8_2⟩ := zc3 BK130; obtain ⟨hfz8_0, hfz8_1, hfz8_2⟩ := zf3 BK130))
    refine bodyPost_ret (results_list (rs := [.tmp 4, .cell 5 31, .tmp 6]) rfl (by simp) (.tmp (.cell gb130 31 #[.string (⟨#[]⟩ : ByteArray), .int .u16 0, .int .u32 0] (0, 0) _ rfl zV Tryd.underlying31 rfl (by kernel_rfl) (.tmp .nil)))) rfl ?_
    exact ⟨zF, by repeat (first | (with_reducible first | exact HI0.out | apply IsS53.alloc | apply IsS53.drewN | apply IsS53.drew | refine IsS53.putAt ?_ rfl rfl (by assumption) (by assumption) | apply IsS53.putAll | refine IsS53.far ?_ NB0_130.out _) | exact HI0.out), by repeat (first | (with_reducible first | exact HB.out | apply below_alloc | apply pw_below_drewN | apply below_drew1 | refine below_set ?_ (IsS53.ge HI0.out) | refine below_set ?_ GE130.out) | exact HB.out), by repeat (first | (with_reducible first | exact HK.out | apply KeepBut.set_ | apply keep_drewN | apply keep_drew | apply keep_alloc | refine keep_far ?_ GW130.out _) | exact HK.out)⟩
  · rw [if_neg c4] at H
    have c4b0 : decide (t131 < 0) = false := decide_eq_false c4
    clear c4
    by_cases c9 : 0 ≤ t131
    · rw [if_pos c9] at H
      have c9b0 : decide (0 ≤ t131) = true := decide_eq_true c9
      clear c9
      by_cases c10 : t131 < 8
      · rw [if_pos c10] at H
        have c10b0 : decide (t131 < 8) = true := decide_eq_true c10
        clear c10
        simp only [Option.some.injEq, Prod.mk.injEq] at H
        obtain ⟨rfl, rfl, rfl, rfl, rfl, rfl⟩ := H
        go_enter Tryd.func13, Tryd.ntmps13
        try go_wp2_with (first | ((with_reducible refine gate_dst (N := 5) rfl ?_); refine zX (N := 5) (cs := #[.string (⟨#[]⟩ : ByteArray), .int .u16 0, .int .u32 0]) (t := 31) ?_ ?_; (focus first | (go_simp; done) | (go_simp; rfl)); intro gb130 hg w11 hbox hb; have BK130 := Aside0.mk (hbox); have GW130 := Aside0.mk ((by rw [hg]; exact (keep_size (w := w) (g := g) (row := none) (by repeat (first | (with_reducible first | exact HK.out | apply KeepBut.set_ | apply keep_drewN | apply keep_drew | apply keep_alloc) | exact HK.out))) : w.heap.size ≤ gb130)); have GE130 := Aside0.mk ((Nat.le_trans HW0.out (by rw [hg]; exact (keep_size (w := w) (g := g) (row := none) (by repeat (first | (with_reducible first | exact HK.out | apply KeepBut.set_ | apply keep_drewN | apply keep_drew | apply keep_alloc) | exact HK.out))) : w.heap.size ≤ gb130) : w0.heap.size ≤ gb130)); have NB0_130 := Aside0.mk ((by rw [hg]; exact Nat.ne_of_lt (IsS53.lt (show IsS53 w0 _ g s0_0 from by repeat (first | (with_reducible first | exact HI0.out | apply IsS53.alloc | apply IsS53.drewN | apply IsS53.drew | refine IsS53.putAt ?_ rfl rfl (by assumption) (by assumption) | apply IsS53.putAll) | exact HI0.out))) : g ≠ gb130)); have NB130_0 := Aside0.mk ((by rw [hg]; exact Nat.ne_of_gt (IsS53.lt (show IsS53 w0 _ g s0_0 from by repeat (first | (with_reducible first | exact HI0.out | apply IsS53.alloc | apply IsS53.drewN | apply IsS53.drew | refine IsS53.putAt ?_ rfl rfl (by assumption) (by assumption) | apply IsS53.putAll) | exact HI0.out))) : gb130 ≠ g)); replace HK := Aside0.mk (KeepBut.trans (by repeat (first | (with_reducible first | exact HK.out | apply KeepBut.set_ | apply keep_drewN | apply keep_drew | apply keep_alloc) | exact HK.out)) (KeepBut.of_below hb g none) (.inl rfl)); replace HB := Aside0.mk (below_step (by repeat (first | (with_reducible first | exact HB.out | apply below_alloc | apply pw_below_drewN | apply below_drew1 | refine below_set ?_ (IsS53.ge HI0.out)) | exact HB.out)) hb); replace HI0 := Aside0.mk (IsS53.below (by repeat (first | (with_reducible first | exact HI0.out | apply IsS53.alloc | apply IsS53.drewN | apply IsS53.drew | refine IsS53.putAt ?_ rfl rfl (by assumption) (by assumption) | apply IsS53.putAll) | exact HI0.out)) hb); clear hb hbox hg) | ((with_reducible refine gate_callee (f := 21) rfl ?_); refine zG (some 13) Tryd.func21 #[.pointer (some ⟨g, 0, none⟩), .string a1] ?_; (with_reducible refine (gate_Table_of.calls g s0_0 a1 t131 t132 w0 _ ?side1 ?side2 A3.out).mono ?_); (case side1 => repeat (first | (with_reducible first | exact HI0.out | apply IsS53.alloc | apply IsS53.drewN | apply IsS53.drew | refine IsS53.putAt ?_ rfl rfl (by assumption) (by assumption) | apply IsS53.putAll | refine IsS53.far ?_ NB0_130.out _) | exact HI0.out)); (case side2 => repeat (first | (with_reducible first | exact HB.out | apply below_alloc | apply pw_below_drewN | apply below_drew1 | refine below_set ?_ (IsS53.ge HI0.out) | refine below_set ?_ GE130.out) | exact HB.out)); rintro e w12 ⟨rfl, hi, hb, hk⟩; refine ⟨_, rfl, ?_⟩; replace BK130 := Aside0.mk (KeepBut.blk hk (g' := gb130) (o := .cells #[.string (⟨#[]⟩ : ByteArray), .int .u16 0, .int .u32 0] 31 (0, 0)) zK NB130_0.out (by simp)); replace HK := Aside0.mk (KeepBut.trans (by repeat (first | (with_reducible first | exact HK.out | apply KeepBut.set_ | apply keep_drewN | apply keep_drew | apply keep_alloc | refine keep_far ?_ GW130.out _) | exact HK.out)) hk (.inl rfl)); replace HI0 := Aside0.mk (hi); replace HB := Aside0.mk (hb); (try clear hb); (try clear hb2); (try clear hk); (try clear hi)))
        have n0_ := Aside0.mk (blk_drew BK130.out)
        have n1_ := Aside0.mk (IsS53.drew HI0.out)
        have n2_ := Aside0.mk (keep_drew HK.out)
        have n3_ := Aside0.mk (below_drew1 HB.out)
        clear BK130
        clear HI0
        clear HK
        clear HB
        have BK130 := n0_
        have HI0 := n1_
        have HK := n2_
        have HB := n3_
        clear n0_ n1_ n2_ n3_
        have hloi14 : (0 : Int) ≤ t131 := of_decide_eq_true (by first | (with_reducible assumption) | assumption)
        have hhii14 : t131 < (8 : Int) := of_decide_eq_true (by first | (with_reducible assumption) | assumption)
        refine start_ (n := 10) (S := fun w' => w'.cell? ⟨g, (t131 : Int).toNat * 3, none⟩ = some (.string ((AR51.rd t132 t131).f0)) ∧ w'.cell? ⟨g, (t131 : Int).toNat * 3 + 1, none⟩ = some (.int .u16 ((AR51.rd t132 t131).f1)) ∧ w'.cell? ⟨g, (t131 : Int).toNat * 3 + 2, none⟩ = some (.int .u32 ((AR51.rd t132 t131).f2))) (ds := []) #[false, false, false, false, false, false, false, false, false, false] (by kernel_rfl) rfl rfl ⟨(AR51.at_ (Aside0.mk HI0.out.1).out t131 (of_decide_eq_true (by first | (with_reducible assumption) | assumption)) (of_decide_eq_true (by first | (with_reducible assumption) | assumption))).1, (AR51.at_ (Aside0.mk HI0.out.1).out t131 (of_decide_eq_true (by first | (with_reducible assumption) | assumption)) (of_decide_eq_true (by first | (with_reducible assumption) | assumption))).2.1, (AR51.at_ (Aside0.mk HI0.out.1).out t131 (of_decide_eq_true (by first | (with_reducible assumption) | assumption)) (of_decide_eq_true (by first | (with_reducible assumption) | assumption))).2.2⟩ (fun hHeld => ?_); refine with_tabW gate_Table_Find.tab6 gate_Table_Find.bits6 (fun HT_ HW_ => ?_)
        generalize w12.drew = w13 at BK130 HI0 HK HB hHeld ⊢
        refine pure_ (i := 0) (N := some 17) (v := ?_) (a' := ?_) #[true, false, false, false, false, false, false, false, false, false] rfl rfl (any_of HT_.out (by kernel_rfl)) (fun _ _ _ h => h) (Or.inl ⟨by rfl, ?_⟩) ?_ ?_
        rotate_left
        · exact zY
        rotate_left
        · exact zA
        refine pure_ (i := 1) (N := some 18) (v := ?_) (a' := ?_) #[true, true, false, false, false, false, false, false, false, false] rfl rfl (any_of HT_.out (by kernel_rfl)) (fun _ _ _ h => h) (Or.inl ⟨by rfl, ?_⟩) ?_ ?_
        rotate_left
        · exact zY
        rotate_left
        · exact zA
        refine pure_ (i := 2) (N := some 19) (v := ?_) (a' := ?_) #[true, true, true, false, false, false, false, false, false, false] rfl rfl (any_of HT_.out (by kernel_rfl)) (fun _ _ _ h => h) (Or.inl ⟨by rfl, ?_⟩) ?_ ?_
        rotate_left
        · exact zY
        rotate_left
        · exact zA
        refine pure_ (i := 3) (N := some 20) (v := ?_) (a' := ?_) #[true, true, true, true, false, false, false, false, false, false] rfl rfl (any_of HT_.out (by kernel_rfl)) (fun _ _ _ h => h) (Or.inl ⟨by rfl, ?_⟩) ?_ ?_
        rotate_left
        · exact zY
        rotate_left
        · exact zA
        refine pure_ (i := 4) (N := some 21) (v := ?_) (a' := ?_) #[true, true, true, true, true, false, false, false, false, false] rfl rfl (any_of HT_.out (by kernel_rfl)) (fun _ _ _ h => h) (Or.inl ⟨by rfl, ?_⟩) ?_ ?_
        rotate_left
        · exact zY
        rotate_left
        · exact zA
        refine pure_ (i := 5) (N := some 22) (v := ?_) (a' := ?_) #[true, true, true, true, true, true, false, false, false, false] rfl rfl (any_of HT_.out (by kernel_rfl)) (fun _ _ _ h => h) (Or.inl ⟨by rfl, ?_⟩) ?_ ?_
        rotate_left
        · exact zY
        rotate_left
        · exact zA
        refine pure_ (i := 7) (N := some 4) (v := ?_) (a' := ?_) #[true, true, true, true, true, true, false, true, false, false] rfl rfl (any_of HT_.out (by kernel_rfl)) (fun _ _ _ h => h) (Or.inl ⟨by rfl, ?_⟩) ?_ ?_
        rotate_left
        · exact zY
        rotate_left
        · exact zA
        refine take_ (i := 6) (N := some 23) (v := ?_) (a' := ?_) #[true, true, true, true, true, true, true, true, false, false] rfl rfl (take_ofW HT_.out HW_.out (by kernel_rfl)) (fun _ _ _ h => h) (Or.inl ⟨by rfl, ?_⟩) hHeld ?_ ?_
        rotate_left
        · rintro w' ⟨s0, s1, s2⟩
          go_simp
          with_reducible rfl
        rotate_left
        · exact zA
        refine one_ (i := 8) (N := none) #[true, true, true, true, true, true, true, true, true, false] rfl rfl (one_of HT_.out (by kernel_rfl)) (by decide) (fun K hK => ?_)
        obtain ⟨hs15, hs16, hs17⟩ := zc3 BK130
        obtain ⟨hfs15, hfs16, hfs17⟩ := zf3 BK130
        refine skip_ (w1 := ?_) (by rfl) rfl ?_ ?_
        rotate_left
        · go_simp
          rfl
        refine hK.out _ _ ⟨(zh3 NB0_130.out hHeld.1), (zh3 NB0_130.out hHeld.2.1), (zh3 NB0_130.out hHeld.2.2)⟩ (fun hHeld => ?_)
        clear hK K
        refine pure_ (i := 9) (N := some 6) (v := ?_) (a' := ?_) #[true, true, true, true, true, true, true, true, true, true] rfl rfl (any_of HT_.out (by kernel_rfl)) (fun _ _ _ h => h) (Or.inl ⟨by rfl, ?_⟩) ?_ ?_
        rotate_left
        · exact zY
        rotate_left
        · exact zA
        refine done_ (done_of HT_.out (by kernel_rfl)) ?_
        try go_wp2
        refine bodyPost_ret (results_list (rs := [.tmp 4, .cell 5 31, .tmp 6]) rfl (by simp) (.tmp (.cell gb130 31 #[.string ((AR51.rd t132 t131).f0), .int .u16 ((AR51.rd t132 t131).f1), .int .u32 ((AR51.rd t132 t131).f2)] (0, 0) _ rfl zV Tryd.underlying31 rfl (by kernel_rfl) (.tmp .nil)))) rfl ?_
        exact ⟨zF, by repeat (first | (with_reducible first | exact HI0.out | apply IsS53.alloc | apply IsS53.drewN | apply IsS53.drew | refine IsS53.putAt ?_ rfl rfl (by assumption) (by assumption) | apply IsS53.putAll | refine IsS53.far ?_ NB0_130.out _) | exact HI0.out), by repeat (first | (with_reducible first | exact HB.out | apply below_alloc | apply pw_below_drewN | apply below_drew1 | refine below_set ?_ (IsS53.ge HI0.out) | refine below_set ?_ GE130.out) | exact HB.out), by repeat (first | (with_reducible first | exact HK.out | apply KeepBut.set_ | apply keep_drewN | apply keep_drew | apply keep_alloc | refine keep_far ?_ GW130.out _) | exact HK.out)⟩
      · rw [if_neg c10] at H
        exact absurd H (by simp)
    · rw [if_neg c9] at H
      exact absurd H (by simp)

end Go.Proofs.YtlgmboaoemlnpaaDoor.P
