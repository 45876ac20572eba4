-- WRITTEN BY bud.py (a program of this session's over the kit's print). Not trusted: Lean checks it.
import Derived.Test.YtlgmboaoemlnpaaDoorPx0
import Derived.Test.YtlgmboaoemlnpaaDoorPxf
import Derived.Test.YtlgmboaoemlnpaaDoorPx2
import Derived.Test.YtlgmboaoemlnpaaDoorPx3
import Derived.Test.YtlgmboaoemlnpaaDoorPx4
namespace Go.Proofs.YtlgmboaoemlnpaaDoor.P
open Go.RowKit Go.Proofs.YtlgmboaoemlnpaaDoorW.PrintWords Go.Proofs.YtlgmboaoemlnpaaDoorW.PrintLast Go.Proofs.YtlgmboaoemlnpaaDoorW.PrintMore
attribute [local go_sem] max2_int min2_int max_two min_two max_three min_three max_four min_four   -- for this text's walks alone
set_option linter.unusedVariables false
set_option linter.unusedSimpArgs false

/-! ### gate_Table_Turn: function 18 -/
set_option maxHeartbeats 8000000 in
set_option maxRecDepth 100000 in
theorem gate_Table_Turn.calls (k : Nat) (g : Nat) (s0_0 : AR51) (a1_0 : ByteArray) (a1_1 : Int) (a1_2 : Int) (r1 : Int) (r2 : ByteArray) (r3 : Int) (r4 : Int) (r5 : Int) (r6 : AR51) (w0 w : World) (hI : IsS53 w0 w g s0_0) (hB : Below w0.heap.size w0 w) (h : gate_Table_Turn.f k s0_0 a1_0 a1_1 a1_2 = some (r1, r2, r3, r4, r5, r6)) :
    Calls Tryd.prog 18 #[.pointer (some ⟨g, 0, none⟩), .agg #[.string a1_0, .int .u16 a1_1, .int .u32 a1_2]] w fun e w' => e = .returned (.tuple #[.int .i64 r1, .agg #[.string r2, .int .u16 r3, .int .u32 r4], .int .i64 r5]) ∧ IsS53 w0 w' g r6 ∧ Below w0.heap.size w0 w' ∧ KeepBut w w' g none := by
  have hu31 := Tryd.underlying31
  have HI0 := Aside0.mk hI
  have HK := Aside0.mk (KeepBut.refl w g none)
  have HL := Aside0.mk hB.size
  clear hI
  have HW0 := Aside0.mk hB.size
  have HB := Aside0.mk hB
  clear hB
  have H : ((gate_zero.f a1_0 a1_1 a1_2).bind fun t144 => (gate_Table_Turn.j0 k t144 s0_0 a1_0 a1_1 a1_2)) = some (r1, r2, r3, r4, r5, r6) := h
  clear h
  have HC3 := Aside0.mk H
  clear H
  go_enter Tryd.func18, Tryd.ntmps18
  go_upto_region 3 with (first | ((with_reducible refine gate_dst (N := 3) rfl ?_); refine zX (N := 3) (cs := #[.string a1_0, .int .u16 a1_1, .int .u32 a1_2]) (t := 31) ?_ ?_; (focus first | (go_simp; done) | (go_simp; rfl)); intro gb142 hg w4 hbox hb; have BK142 := Aside0.mk (hbox); have GW142 := Aside0.mk ((by rw [hg]; exact (keep_size (w := w) (g := g) (row := none) (by repeat (first | (with_reducible first | exact HK.out | apply KeepBut.set_ | apply keep_drewN | apply keep_drew | apply keep_alloc) | exact HK.out))) : w.heap.size ≤ gb142)); have GE142 := Aside0.mk ((Nat.le_trans HW0.out (by rw [hg]; exact (keep_size (w := w) (g := g) (row := none) (by repeat (first | (with_reducible first | exact HK.out | apply KeepBut.set_ | apply keep_drewN | apply keep_drew | apply keep_alloc) | exact HK.out))) : w.heap.size ≤ gb142) : w0.heap.size ≤ gb142)); have NB0_142 := Aside0.mk ((by rw [hg]; exact Nat.ne_of_lt (IsS53.lt (show IsS53 w0 _ g s0_0 from by repeat (first | (with_reducible first | exact HI0.out | apply IsS53.alloc | apply IsS53.drewN | apply IsS53.drew | refine IsS53.putAt ?_ rfl rfl (by assumption) (by assumption) | apply IsS53.putAll) | exact HI0.out))) : g ≠ gb142)); have NB142_0 := Aside0.mk ((by rw [hg]; exact Nat.ne_of_gt (IsS53.lt (show IsS53 w0 _ g s0_0 from by repeat (first | (with_reducible first | exact HI0.out | apply IsS53.alloc | apply IsS53.drewN | apply IsS53.drew | refine IsS53.putAt ?_ rfl rfl (by assumption) (by assumption) | apply IsS53.putAll) | exact HI0.out))) : gb142 ≠ g)); replace HK := Aside0.mk (KeepBut.trans (by repeat (first | (with_reducible first | exact HK.out | apply KeepBut.set_ | apply keep_drewN | apply keep_drew | apply keep_alloc) | exact HK.out)) (KeepBut.of_below hb g none) (.inl rfl)); replace HB := Aside0.mk (below_step (by repeat (first | (with_reducible first | exact HB.out | apply below_alloc | apply pw_below_drewN | apply below_drew1 | refine below_set ?_ (IsS53.ge HI0.out)) | exact HB.out)) hb); replace HI0 := Aside0.mk (IsS53.below (by repeat (first | (with_reducible first | exact HI0.out | apply IsS53.alloc | apply IsS53.drewN | apply IsS53.drew | refine IsS53.putAt ?_ rfl rfl (by assumption) (by assumption) | apply IsS53.putAll) | exact HI0.out)) hb); clear hb hbox hg) | ((with_reducible refine gate_dst (N := 5) rfl ?_); refine zX (N := 5) (cs := #[.string (⟨#[]⟩ : ByteArray), .int .u16 0, .int .u32 0]) (t := 31) ?_ ?_; (focus first | (go_simp; done) | (go_simp; rfl)); intro gb143 hg w5 hbox hb; have BK143 := Aside0.mk (hbox); have GW143 := Aside0.mk ((by rw [hg]; exact (keep_size (w := w) (g := g) (row := none) (by repeat (first | (with_reducible first | exact HK.out | apply KeepBut.set_ | apply keep_drewN | apply keep_drew | apply keep_alloc | refine keep_far ?_ GW142.out _) | exact HK.out))) : w.heap.size ≤ gb143)); have GE143 := Aside0.mk ((Nat.le_trans HW0.out (by rw [hg]; exact (keep_size (w := w) (g := g) (row := none) (by repeat (first | (with_reducible first | exact HK.out | apply KeepBut.set_ | apply keep_drewN | apply keep_drew | apply keep_alloc | refine keep_far ?_ GW142.out _) | exact HK.out))) : w.heap.size ≤ gb143) : w0.heap.size ≤ gb143)); have NB142_143 := Aside0.mk (zlt hg BK142 : gb142 ≠ gb143); have NB143_142 := Aside0.mk (zgt hg BK142 : gb143 ≠ gb142); have NB0_143 := Aside0.mk ((by rw [hg]; exact Nat.ne_of_lt (IsS53.lt (show IsS53 w0 _ g s0_0 from by repeat (first | (with_reducible first | exact HI0.out | apply IsS53.alloc | apply IsS53.drewN | apply IsS53.drew | refine IsS53.putAt ?_ rfl rfl (by assumption) (by assumption) | apply IsS53.putAll | refine IsS53.far ?_ NB0_142.out _) | exact HI0.out))) : g ≠ gb143)); have NB143_0 := Aside0.mk ((by rw [hg]; exact Nat.ne_of_gt (IsS53.lt (show IsS53 w0 _ g s0_0 from by repeat (first | (with_reducible first | exact HI0.out | apply IsS53.alloc | apply IsS53.drewN | apply IsS53.drew | refine IsS53.putAt ?_ rfl rfl (by assumption) (by assumption) | apply IsS53.putAll | refine IsS53.far ?_ NB0_142.out _) | exact HI0.out))) : gb143 ≠ g)); replace BK142 := Aside0.mk (zL BK142 hb); replace HK := Aside0.mk (KeepBut.trans (by repeat (first | (with_reducible first | exact HK.out | apply KeepBut.set_ | apply keep_drewN | apply keep_drew | apply keep_alloc | refine keep_far ?_ GW142.out _) | exact HK.out)) (KeepBut.of_below hb g none) (.inl rfl)); replace HB := Aside0.mk (below_step (by repeat (first | (with_reducible first | exact HB.out | apply below_alloc | apply pw_below_drewN | apply below_drew1 | refine below_set ?_ (IsS53.ge HI0.out) | refine below_set ?_ GE142.out) | exact HB.out)) hb); replace HI0 := Aside0.mk (IsS53.below (by repeat (first | (with_reducible first | exact HI0.out | apply IsS53.alloc | apply IsS53.drewN | apply IsS53.drew | refine IsS53.putAt ?_ rfl rfl (by assumption) (by assumption) | apply IsS53.putAll | refine IsS53.far ?_ NB0_142.out _) | exact HI0.out)) hb); clear hb hbox hg))
  (try simp only [Act.put, List.setIfInBounds_toArray, List.set_cons_zero, List.set_cons_succ])
  go_cut [13] (fun v13 wc => ∃ (kq : Nat) (x13_2 : Bool), v13 = .bool x13_2 ∧ Aside0 (gate_Table_Turn.j0 kq x13_2 s0_0 a1_0 a1_1 a1_2 = some (r1, r2, r3, r4, r5, r6)) ∧ Aside0 (kq ≤ k) ∧ Aside0 (wc.heap[gb142]? = some (.cells #[.string a1_0, .int .u16 a1_1, .int .u32 a1_2] 31 (0, 0))) ∧ Aside0 (wc.heap[gb143]? = some (.cells #[.string (⟨#[]⟩ : ByteArray), .int .u16 0, .int .u32 0] 31 (0, 0))) ∧ Aside0 (IsS53 w0 wc g s0_0) ∧ Aside0 (KeepBut w wc g none) ∧ Aside0 (Below w0.heap.size w0 wc))
  case first =>
    have H := HC3.out
    clear HC3
    replace H := Option.bind_eq_some_iff.mp H
    obtain ⟨t144, A60, H⟩ := H
    replace H : (gate_Table_Turn.j0 k t144 s0_0 a1_0 a1_1 a1_2) = some (r1, r2, r3, r4, r5, r6) := H
    have A6 := Aside0.mk A60
    clear A60
    have H' := Aside0.mk H
    clear H
    have hnb7 := NB142_143.out
    have hnc7 := NB143_142.out
    have hnb8 := NB142_0.out
    have hnc8 := NB0_142.out
    obtain ⟨hcz9_0, hcz9_1, hcz9_2⟩ := zc3 BK142
    obtain ⟨hfz9_0, hfz9_1, hfz9_2⟩ := zf3 BK142
    go_wp2_with (first | ((with_reducible refine gate_callee (f := 20) rfl ?_); refine zG (some 15) Tryd.func20 #[.agg #[.string a1_0, .int .u16 a1_1, .int .u32 a1_2]] ?_; (with_reducible refine (gate_zero.calls a1_0 a1_1 a1_2 t144 _ A6.out).mono ?_); rintro e w10 ⟨rfl, hb⟩; refine ⟨_, rfl, ?_⟩; replace BK142 := Aside0.mk (zL BK142 hb); replace BK143 := Aside0.mk (zL BK143 hb); replace HK := Aside0.mk (KeepBut.trans (by repeat (first | (with_reducible first | exact HK.out | apply KeepBut.set_ | apply keep_drewN | apply keep_drew | apply keep_alloc | refine keep_far ?_ GW142.out _ | refine keep_far ?_ GW143.out _) | exact HK.out)) (KeepBut.of_below hb g none) (.inl rfl)); replace HB := Aside0.mk (below_step (by repeat (first | (with_reducible first | exact HB.out | apply below_alloc | apply pw_below_drewN | apply below_drew1 | refine below_set ?_ (IsS53.ge HI0.out) | refine below_set ?_ GE142.out | refine below_set ?_ GE143.out) | exact HB.out)) hb); replace HI0 := Aside0.mk (IsS53.below (by repeat (first | (with_reducible first | exact HI0.out | apply IsS53.alloc | apply IsS53.drewN | apply IsS53.drew | refine IsS53.putAt ?_ rfl rfl (by assumption) (by assumption) | apply IsS53.putAll | refine IsS53.far ?_ NB0_142.out _ | refine IsS53.far ?_ NB0_143.out _) | exact HI0.out)) hb); (try clear hb); (try clear hb2); (try clear hk); (try clear hi)))
    go_meet
    case rel => exact ⟨_, (t144), (zE), H', ⟨by first | omega | exact Nat.le_refl _⟩, ⟨zK⟩, ⟨zK⟩, ⟨by repeat (first | (with_reducible first | exact HI0.out | apply IsS53.alloc | apply IsS53.drewN | apply IsS53.drew | refine IsS53.putAt ?_ rfl rfl (by assumption) (by assumption) | apply IsS53.putAll | refine IsS53.far ?_ NB0_142.out _ | refine IsS53.far ?_ NB0_143.out _) | exact HI0.out)⟩, ⟨by repeat (first | (with_reducible first | exact HK.out | apply KeepBut.set_ | apply keep_drewN | apply keep_drew | apply keep_alloc | refine keep_far ?_ GW142.out _ | refine keep_far ?_ GW143.out _) | exact HK.out)⟩, ⟨by repeat (first | (with_reducible first | exact HB.out | apply below_alloc | apply pw_below_drewN | apply below_drew1 | refine below_set ?_ (IsS53.ge HI0.out) | refine below_set ?_ GE142.out | refine below_set ?_ GE143.out) | exact HB.out)⟩⟩
  case rest =>
    clear HC3
    try clear c1
    try clear c2
    try clear p2
    try clear c7
    try clear c8
    try clear hcz9_0 hcz9_1 hcz9_2
    try clear hfz9_0 hfz9_1 hfz9_2
    obtain ⟨kq, x13_2, rfl, HA, HJ2, BK142, BK143, HI0, HK, HB⟩ := hcut
    cases kq with
    | zero => exact absurd HA.out (by simp [gate_Table_Turn.j0])
    | succ kj2 =>
      have H := HA.out
      clear HA
      simp only [gate_Table_Turn.j0] at H
      by_cases c11 : x13_2 = true
      · subst c11
        replace H := zT H
        simp only [Option.some.injEq, Prod.mk.injEq] at H
        obtain ⟨rfl, rfl, rfl, rfl, rfl, rfl⟩ := H
        have hnb12 := NB143_142.out
        have hnc12 := NB142_143.out
        have hnb13 := NB143_0.out
        have hnc13 := NB0_143.out
        obtain ⟨hcz14_0, hcz14_1, hcz14_2⟩ := zc3 BK143
        obtain ⟨hfz14_0, hfz14_1, hfz14_2⟩ := zf3 BK143
        go_wp2
        refine bodyPost_ret (results_list (rs := [.tmp 4, .cell 5 31, .tmp 6]) rfl (by simp) (.tmp (.cell gb143 31 #[.string (⟨#[]⟩ : ByteArray), .int .u16 0, .int .u32 0] (0, 0) _ rfl zV Tryd.underlying31 rfl (by kernel_rfl) (.tmp .nil)))) rfl ?_
        exact ⟨zF, by repeat (first | (with_reducible first | exact HI0.out | apply IsS53.alloc | apply IsS53.drewN | apply IsS53.drew | refine IsS53.putAt ?_ rfl rfl (by assumption) (by assumption) | apply IsS53.putAll | refine IsS53.far ?_ NB0_142.out _ | refine IsS53.far ?_ NB0_143.out _) | exact HI0.out), by repeat (first | (with_reducible first | exact HB.out | apply below_alloc | apply pw_below_drewN | apply below_drew1 | refine below_set ?_ (IsS53.ge HI0.out) | refine below_set ?_ GE142.out | refine below_set ?_ GE143.out) | exact HB.out), by repeat (first | (with_reducible first | exact HK.out | apply KeepBut.set_ | apply keep_drewN | apply keep_drew | apply keep_alloc | refine keep_far ?_ GW142.out _ | refine keep_far ?_ GW143.out _) | exact HK.out)⟩
      · replace c11 := Bool.eq_false_iff.mpr c11
        subst c11
        replace H := zU H
        replace H := Option.bind_eq_some_iff.mp H
        obtain ⟨⟨t145, t146⟩, A150, H⟩ := H
        replace H : (if t145 < 0 then (some (0, (⟨#[]⟩ : ByteArray), 0, 0, 8, t146)) else ((gate_Table_owned.f t146 a1_1).bind fun bt147 => (if bt147.1 = true then (some (0, (⟨#[]⟩ : ByteArray), 0, 0, 9, bt147.2)) else (if 0 ≤ t145 then (if t145 < 8 then (some (t145, (AR51.rd bt147.2 t145).f0, (AR51.rd bt147.2 t145).f1, (AR51.rd bt147.2 t145).f2, 0, (AR51.up bt147.2 t145 (⟨a1_0, a1_1, a1_2⟩ : S31)))) else (none)) else (none))))) = some (r1, r2, r3, r4, r5, r6) := H
        have A15 := Aside0.mk A150
        clear A150
        by_cases c16 : t145 < 0
        · rw [if_pos c16] at H
          have c16b0 : decide (t145 < 0) = true := decide_eq_true c16
          clear c16
          simp only [Option.some.injEq, Prod.mk.injEq] at H
          obtain ⟨rfl, rfl, rfl, rfl, rfl, rfl⟩ := H
          have hnb17 := NB142_143.out
          have hnc17 := NB143_142.out
          have hnb18 := NB142_0.out
          have hnc18 := NB0_142.out
          obtain ⟨hcz19_0, hcz19_1, hcz19_2⟩ := zc3 BK142
          obtain ⟨hfz19_0, hfz19_1, hfz19_2⟩ := zf3 BK142
          go_wp2_with (first | ((with_reducible refine gate_callee (f := 21) rfl ?_); refine zG (some 20) Tryd.func21 #[.pointer (some ⟨g, 0, none⟩), .string a1_0] ?_; (with_reducible refine (gate_Table_of.calls g s0_0 a1_0 t145 t146 w0 _ ?side1 ?side2 A15.out).mono ?_); (case side1 => repeat (first | (with_reducible first | exact HI0.out | apply IsS53.alloc | apply IsS53.drewN | apply IsS53.drew | refine IsS53.putAt ?_ rfl rfl (by assumption) (by assumption) | apply IsS53.putAll | refine IsS53.far ?_ NB0_142.out _ | refine IsS53.far ?_ NB0_143.out _) | exact HI0.out)); (case side2 => repeat (first | (with_reducible first | exact HB.out | apply below_alloc | apply pw_below_drewN | apply below_drew1 | refine below_set ?_ (IsS53.ge HI0.out) | refine below_set ?_ GE142.out | refine below_set ?_ GE143.out) | exact HB.out)); rintro e w20 ⟨rfl, hi, hb, hk⟩; refine ⟨_, rfl, ?_⟩; replace BK142 := Aside0.mk (KeepBut.blk hk (g' := gb142) (o := .cells #[.string a1_0, .int .u16 a1_1, .int .u32 a1_2] 31 (0, 0)) zK NB142_0.out (by simp)); replace BK143 := Aside0.mk (KeepBut.blk hk (g' := gb143) (o := .cells #[.string (⟨#[]⟩ : ByteArray), .int .u16 0, .int .u32 0] 31 (0, 0)) zK NB143_0.out (by simp)); replace HK := Aside0.mk (KeepBut.trans (by repeat (first | (with_reducible first | exact HK.out | apply KeepBut.set_ | apply keep_drewN | apply keep_drew | apply keep_alloc | refine keep_far ?_ GW142.out _ | refine keep_far ?_ GW143.out _) | exact HK.out)) hk (.inl rfl)); replace HI0 := Aside0.mk (hi); replace HB := Aside0.mk (hb); (try clear hb); (try clear hb2); (try clear hk); (try clear hi); have hnb21 := NB143_0.out; have hnc21 := NB0_143.out; obtain ⟨hcz22_0, hcz22_1, hcz22_2⟩ := zc3 BK143; obtain ⟨hfz22_0, hfz22_1, hfz22_2⟩ := zf3 BK143))
          refine bodyPost_ret (results_list (rs := [.tmp 4, .cell 5 31, .tmp 6]) rfl (by simp) (.tmp (.cell gb143 31 #[.string (⟨#[]⟩ : ByteArray), .int .u16 0, .int .u32 0] (0, 0) _ rfl zV Tryd.underlying31 rfl (by kernel_rfl) (.tmp .nil)))) rfl ?_
          exact ⟨zF, by repeat (first | (with_reducible first | exact HI0.out | apply IsS53.alloc | apply IsS53.drewN | apply IsS53.drew | refine IsS53.putAt ?_ rfl rfl (by assumption) (by assumption) | apply IsS53.putAll | refine IsS53.far ?_ NB0_142.out _ | refine IsS53.far ?_ NB0_143.out _) | exact HI0.out), by repeat (first | (with_reducible first | exact HB.out | apply below_alloc | apply pw_below_drewN | apply below_drew1 | refine below_set ?_ (IsS53.ge HI0.out) | refine below_set ?_ GE142.out | refine below_set ?_ GE143.out) | exact HB.out), by repeat (first | (with_reducible first | exact HK.out | apply KeepBut.set_ | apply keep_drewN | apply keep_drew | apply keep_alloc | refine keep_far ?_ GW142.out _ | refine keep_far ?_ GW143.out _) | exact HK.out)⟩
        · rw [if_neg c16] at H
          have c16b0 : decide (t145 < 0) = false := decide_eq_false c16
          clear c16
          replace H := Option.bind_eq_some_iff.mp H
          obtain ⟨⟨t147, t148⟩, A230, H⟩ := H
          replace H : (if t147 = true then (some (0, (⟨#[]⟩ : ByteArray), 0, 0, 9, t148)) else (if 0 ≤ t145 then (if t145 < 8 then (some (t145, (AR51.rd t148 t145).f0, (AR51.rd t148 t145).f1, (AR51.rd t148 t145).f2, 0, (AR51.up t148 t145 (⟨a1_0, a1_1, a1_2⟩ : S31)))) else (none)) else (none))) = some (r1, r2, r3, r4, r5, r6) := H
          have A23 := Aside0.mk A230
          clear A230
          by_cases c24 : t147 = true
          · subst c24
            replace H := zT H
            simp only [Option.some.injEq, Prod.mk.injEq] at H
            obtain ⟨rfl, rfl, rfl, rfl, rfl, rfl⟩ := H
            have hnb25 := NB142_143.out
            have hnc25 := NB143_142.out
            have hnb26 := NB142_0.out
            have hnc26 := NB0_142.out
            obtain ⟨hcz27_0, hcz27_1, hcz27_2⟩ := zc3 BK142
            obtain ⟨hfz27_0, hfz27_1, hfz27_2⟩ := zf3 BK142
            go_wp2_with (first | ((with_reducible refine gate_callee (f := 21) rfl ?_); refine zG (some 20) Tryd.func21 #[.pointer (some ⟨g, 0, none⟩), .string a1_0] ?_; (with_reducible refine (gate_Table_of.calls g s0_0 a1_0 t145 t146 w0 _ ?side1 ?side2 A15.out).mono ?_); (case side1 => repeat (first | (with_reducible first | exact HI0.out | apply IsS53.alloc | apply IsS53.drewN | apply IsS53.drew | refine IsS53.putAt ?_ rfl rfl (by assumption) (by assumption) | apply IsS53.putAll | refine IsS53.far ?_ NB0_142.out _ | refine IsS53.far ?_ NB0_143.out _) | exact HI0.out)); (case side2 => repeat (first | (with_reducible first | exact HB.out | apply below_alloc | apply pw_below_drewN | apply below_drew1 | refine below_set ?_ (IsS53.ge HI0.out) | refine below_set ?_ GE142.out | refine below_set ?_ GE143.out) | exact HB.out)); rintro e w28 ⟨rfl, hi, hb, hk⟩; refine ⟨_, rfl, ?_⟩; replace BK142 := Aside0.mk (KeepBut.blk hk (g' := gb142) (o := .cells #[.string a1_0, .int .u16 a1_1, .int .u32 a1_2] 31 (0, 0)) zK NB142_0.out (by simp)); replace BK143 := Aside0.mk (KeepBut.blk hk (g' := gb143) (o := .cells #[.string (⟨#[]⟩ : ByteArray), .int .u16 0, .int .u32 0] 31 (0, 0)) zK NB143_0.out (by simp)); replace HK := Aside0.mk (KeepBut.trans (by repeat (first | (with_reducible first | exact HK.out | apply KeepBut.set_ | apply keep_drewN | apply keep_drew | apply keep_alloc | refine keep_far ?_ GW142.out _ | refine keep_far ?_ GW143.out _) | exact HK.out)) hk (.inl rfl)); replace HI0 := Aside0.mk (hi); replace HB := Aside0.mk (hb); (try clear hb); (try clear hb2); (try clear hk); (try clear hi); obtain ⟨hcz29_0, hcz29_1, hcz29_2⟩ := zc3 BK142; obtain ⟨hfz29_0, hfz29_1, hfz29_2⟩ := zf3 BK142) | ((with_reducible refine gate_callee (f := 22) rfl ?_); refine zG (some 29) Tryd.func22 #[.pointer (some ⟨g, 0, none⟩), .int .u16 a1_1] ?_; (with_reducible refine (gate_Table_owned.calls g t146 a1_1 true t148 w0 _ ?side1 ?side2 A23.out).mono ?_); (case side1 => repeat (first | (with_reducible first | exact HI0.out | apply IsS53.alloc | apply IsS53.drewN | apply IsS53.drew | refine IsS53.putAt ?_ rfl rfl (by assumption) (by assumption) | apply IsS53.putAll | refine IsS53.far ?_ NB0_142.out _ | refine IsS53.far ?_ NB0_143.out _) | exact HI0.out)); (case side2 => repeat (first | (with_reducible first | exact HB.out | apply below_alloc | apply pw_below_drewN | apply below_drew1 | refine below_set ?_ (IsS53.ge HI0.out) | refine below_set ?_ GE142.out | refine below_set ?_ GE143.out) | exact HB.out)); rintro e w30 ⟨rfl, hi, hb, hk⟩; refine ⟨_, rfl, ?_⟩; replace BK142 := Aside0.mk (KeepBut.blk hk (g' := gb142) (o := .cells #[.string a1_0, .int .u16 a1_1, .int .u32 a1_2] 31 (0, 0)) zK NB142_0.out (by simp)); replace BK143 := Aside0.mk (KeepBut.blk hk (g' := gb143) (o := .cells #[.string (⟨#[]⟩ : ByteArray), .int .u16 0, .int .u32 0] 31 (0, 0)) zK NB143_0.out (by simp)); replace HK := Aside0.mk (KeepBut.trans (by repeat (first | (with_reducible first | exact HK.out | apply KeepBut.set_ | apply keep_drewN | apply keep_drew | apply keep_alloc | refine keep_far ?_ GW142.out _ | refine keep_far ?_ GW143.out _) | exact HK.out)) hk (.inl rfl)); replace HI0 := Aside0.mk (hi); replace HB := Aside0.mk (hb); (try clear hb); (try clear hb2); (try clear hk); (try clear hi); have hnb31 := NB143_0.out; have hnc31 := NB0_143.out; obtain ⟨hcz32_0, hcz32_1, hcz32_2⟩ := zc3 BK143; obtain ⟨hfz32_0, hfz32_1, hfz32_2⟩ := zf3 BK143))
            refine bodyPost_ret (results_list (rs := [.tmp 4, .cell 5 31, .tmp 6]) rfl (by simp) (.tmp (.cell gb143 31 #[.string (⟨#[]⟩ : ByteArray), .int .u16 0, .int .u32 0] (0, 0) _ rfl zV Tryd.underlying31 rfl (by kernel_rfl) (.tmp .nil)))) rfl ?_
            exact ⟨zF, by repeat (first | (with_reducible first | exact HI0.out | apply IsS53.alloc | apply IsS53.drewN | apply IsS53.drew | refine IsS53.putAt ?_ rfl rfl (by assumption) (by assumption) | apply IsS53.putAll | refine IsS53.far ?_ NB0_142.out _ | refine IsS53.far ?_ NB0_143.out _) | exact HI0.out), by repeat (first | (with_reducible first | exact HB.out | apply below_alloc | apply pw_below_drewN | apply below_drew1 | refine below_set ?_ (IsS53.ge HI0.out) | refine below_set ?_ GE142.out | refine below_set ?_ GE143.out) | exact HB.out), by repeat (first | (with_reducible first | exact HK.out | apply KeepBut.set_ | apply keep_drewN | apply keep_drew | apply keep_alloc | refine keep_far ?_ GW142.out _ | refine keep_far ?_ GW143.out _) | exact HK.out)⟩
          · replace c24 := Bool.eq_false_iff.mpr c24
            subst c24
            replace H := zU H
            by_cases c33 : 0 ≤ t145
            · rw [if_pos c33] at H
              have c33b0 : decide (0 ≤ t145) = true := decide_eq_true c33
              clear c33
              by_cases c34 : t145 < 8
              · rw [if_pos c34] at H
                have c34b0 : decide (t145 < 8) = true := decide_eq_true c34
                clear c34
                simp only [Option.some.injEq, Prod.mk.injEq] at H
                obtain ⟨rfl, rfl, rfl, rfl, rfl, rfl⟩ := H
                have hnb35 := NB142_143.out
                have hnc35 := NB143_142.out
                have hnb36 := NB142_0.out
                have hnc36 := NB0_142.out
                obtain ⟨hcz37_0, hcz37_1, hcz37_2⟩ := zc3 BK142
                obtain ⟨hfz37_0, hfz37_1, hfz37_2⟩ := zf3 BK142
                try go_wp2_with (first | ((with_reducible refine gate_callee (f := 21) rfl ?_); refine zG (some 20) Tryd.func21 #[.pointer (some ⟨g, 0, none⟩), .string a1_0] ?_; (with_reducible refine (gate_Table_of.calls g s0_0 a1_0 t145 t146 w0 _ ?side1 ?side2 A15.out).mono ?_); (case side1 => repeat (first | (with_reducible first | exact HI0.out | apply IsS53.alloc | apply IsS53.drewN | apply IsS53.drew | refine IsS53.putAt ?_ rfl rfl (by assumption) (by assumption) | apply IsS53.putAll | refine IsS53.far ?_ NB0_142.out _ | refine IsS53.far ?_ NB0_143.out _) | exact HI0.out)); (case side2 => repeat (first | (with_reducible first | exact HB.out | apply below_alloc | apply pw_below_drewN | apply below_drew1 | refine below_set ?_ (IsS53.ge HI0.out) | refine below_set ?_ GE142.out | refine below_set ?_ GE143.out) | exact HB.out)); rintro e w38 ⟨rfl, hi, hb, hk⟩; refine ⟨_, rfl, ?_⟩; replace BK142 := Aside0.mk (KeepBut.blk hk (g' := gb142) (o := .cells #[.string a1_0, .int .u16 a1_1, .int .u32 a1_2] 31 (0, 0)) zK NB142_0.out (by simp)); replace BK143 := Aside0.mk (KeepBut.blk hk (g' := gb143) (o := .cells #[.string (⟨#[]⟩ : ByteArray), .int .u16 0, .int .u32 0] 31 (0, 0)) zK NB143_0.out (by simp)); replace HK := Aside0.mk (KeepBut.trans (by repeat (first | (with_reducible first | exact HK.out | apply KeepBut.set_ | apply keep_drewN | apply keep_drew | apply keep_alloc | refine keep_far ?_ GW142.out _ | refine keep_far ?_ GW143.out _) | exact HK.out)) hk (.inl rfl)); replace HI0 := Aside0.mk (hi); replace HB := Aside0.mk (hb); (try clear hb); (try clear hb2); (try clear hk); (try clear hi); obtain ⟨hcz39_0, hcz39_1, hcz39_2⟩ := zc3 BK142; obtain ⟨hfz39_0, hfz39_1, hfz39_2⟩ := zf3 BK142) | ((with_reducible refine gate_callee (f := 22) rfl ?_); refine zG (some 29) Tryd.func22 #[.pointer (some ⟨g, 0, none⟩), .int .u16 a1_1] ?_; (with_reducible refine (gate_Table_owned.calls g t146 a1_1 false t148 w0 _ ?side1 ?side2 A23.out).mono ?_); (case side1 => repeat (first | (with_reducible first | exact HI0.out | apply IsS53.alloc | apply IsS53.drewN | apply IsS53.drew | refine IsS53.putAt ?_ rfl rfl (by assumption) (by assumption) | apply IsS53.putAll | refine IsS53.far ?_ NB0_142.out _ | refine IsS53.far ?_ NB0_143.out _) | exact HI0.out)); (case side2 => repeat (first | (with_reducible first | exact HB.out | apply below_alloc | apply pw_below_drewN | apply below_drew1 | refine below_set ?_ (IsS53.ge HI0.out) | refine below_set ?_ GE142.out | refine below_set ?_ GE143.out) | exact HB.out)); rintro e w40 ⟨rfl, hi, hb, hk⟩; refine ⟨_, rfl, ?_⟩; replace BK142 := Aside0.mk (KeepBut.blk hk (g' := gb142) (o := .cells #[.string a1_0, .int .u16 a1_1, .int .u32 a1_2] 31 (0, 0)) zK NB142_0.out (by simp)); replace BK143 := Aside0.mk (KeepBut.blk hk (g' := gb143) (o := .cells #[.string (⟨#[]⟩ : ByteArray), .int .u16 0, .int .u32 0] 31 (0, 0)) zK NB143_0.out (by simp)); replace HK := Aside0.mk (KeepBut.trans (by repeat (first | (with_reducible first | exact HK.out | apply KeepBut.set_ | apply keep_drewN | apply keep_drew | apply keep_alloc | refine keep_far ?_ GW142.out _ | refine keep_far ?_ GW143.out _) | exact HK.out)) hk (.inl rfl)); replace HI0 := Aside0.mk (hi); replace HB := Aside0.mk (hb); (try clear hb); (try clear hb2); (try clear hk); (try clear hi); have hloi42 : (0 : Int) ≤ t145 := of_decide_eq_true (by first | (with_reducible assumption) | assumption); have hhii42 : t145 < (8 : Int) := of_decide_eq_true (by first | (with_reducible assumption) | assumption); obtain ⟨ha41_0, ha41_1, ha41_2⟩ := AR51.at_ (Aside0.mk HI0.out.1).out t145 (of_decide_eq_true (by first | (with_reducible assumption) | assumption)) (of_decide_eq_true (by first | (with_reducible assumption) | assumption))) | ((with_reducible refine gate_dst (N := 8) rfl ?_); refine zX (N := 8) (cs := #[.string (⟨#[]⟩ : ByteArray), .int .u16 0, .int .u32 0]) (t := 31) ?_ ?_; (focus first | (go_simp; done) | (go_simp; rfl)); intro gb149 hg w43 hbox hb; have BK149 := Aside0.mk (hbox); have GW149 := Aside0.mk ((by rw [hg]; exact (keep_size (w := w) (g := g) (row := none) (by repeat (first | (with_reducible first | exact HK.out | apply KeepBut.set_ | apply keep_drewN | apply keep_drew | apply keep_alloc | refine keep_far ?_ GW142.out _ | refine keep_far ?_ GW143.out _) | exact HK.out))) : w.heap.size ≤ gb149)); have GE149 := Aside0.mk ((Nat.le_trans HW0.out (by rw [hg]; exact (keep_size (w := w) (g := g) (row := none) (by repeat (first | (with_reducible first | exact HK.out | apply KeepBut.set_ | apply keep_drewN | apply keep_drew | apply keep_alloc | refine keep_far ?_ GW142.out _ | refine keep_far ?_ GW143.out _) | exact HK.out))) : w.heap.size ≤ gb149) : w0.heap.size ≤ gb149)); have NB142_149 := Aside0.mk (zlt hg BK142 : gb142 ≠ gb149); have NB149_142 := Aside0.mk (zgt hg BK142 : gb149 ≠ gb142); have NB143_149 := Aside0.mk (zlt hg BK143 : gb143 ≠ gb149); have NB149_143 := Aside0.mk (zgt hg BK143 : gb149 ≠ gb143); have NB0_149 := Aside0.mk ((by rw [hg]; exact Nat.ne_of_lt (IsS53.lt (show IsS53 w0 _ g t148 from by repeat (first | (with_reducible first | exact HI0.out | apply IsS53.alloc | apply IsS53.drewN | apply IsS53.drew | refine IsS53.putAt ?_ rfl rfl (by assumption) (by assumption) | apply IsS53.putAll | refine IsS53.far ?_ NB0_142.out _ | refine IsS53.far ?_ NB0_143.out _) | exact HI0.out))) : g ≠ gb149)); have NB149_0 := Aside0.mk ((by rw [hg]; exact Nat.ne_of_gt (IsS53.lt (show IsS53 w0 _ g t148 from by repeat (first | (with_reducible first | exact HI0.out | apply IsS53.alloc | apply IsS53.drewN | apply IsS53.drew | refine IsS53.putAt ?_ rfl rfl (by assumption) (by assumption) | apply IsS53.putAll | refine IsS53.far ?_ NB0_142.out _ | refine IsS53.far ?_ NB0_143.out _) | exact HI0.out))) : gb149 ≠ g)); replace BK142 := Aside0.mk (zL BK142 hb); replace BK143 := Aside0.mk (zL BK143 hb); replace HK := Aside0.mk (KeepBut.trans (by repeat (first | (with_reducible first | exact HK.out | apply KeepBut.set_ | apply keep_drewN | apply keep_drew | apply keep_alloc | refine keep_far ?_ GW142.out _ | refine keep_far ?_ GW143.out _) | exact HK.out)) (KeepBut.of_below hb g none) (.inl rfl)); replace HB := Aside0.mk (below_step (by repeat (first | (with_reducible first | exact HB.out | apply below_alloc | apply pw_below_drewN | apply below_drew1 | refine below_set ?_ (IsS53.ge HI0.out) | refine below_set ?_ GE142.out | refine below_set ?_ GE143.out) | exact HB.out)) hb); replace HI0 := Aside0.mk (IsS53.below (by repeat (first | (with_reducible first | exact HI0.out | apply IsS53.alloc | apply IsS53.drewN | apply IsS53.drew | refine IsS53.putAt ?_ rfl rfl (by assumption) (by assumption) | apply IsS53.putAll | refine IsS53.far ?_ NB0_142.out _ | refine IsS53.far ?_ NB0_143.out _) | exact HI0.out)) hb); clear hb hbox hg; have hnb44 := NB149_142.out; have hnc44 := NB142_149.out; have hnb45 := NB149_143.out; have hnc45 := NB143_149.out; have hnb46 := NB149_0.out; have hnc46 := NB0_149.out; obtain ⟨hcz47_0, hcz47_1, hcz47_2⟩ := zc3 BK149; obtain ⟨hfz47_0, hfz47_1, hfz47_2⟩ := zf3 BK149))
                have n0_ : Aside0 ((((w43.setCell ⟨gb149, 0, none⟩ (.string ((AR51.rd t148 t145).f0))).setCell ⟨gb149, 1, none⟩ (.int .u16 ((AR51.rd t148 t145).f1))).setCell ⟨gb149, 2, none⟩ (.int .u32 ((AR51.rd t148 t145).f2))).heap[gb142]? = some (.cells #[.string a1_0, .int .u16 a1_1, .int .u32 a1_2] 31 (0, 0))) := ⟨zV⟩
                have n1_ : Aside0 ((((w43.setCell ⟨gb149, 0, none⟩ (.string ((AR51.rd t148 t145).f0))).setCell ⟨gb149, 1, none⟩ (.int .u16 ((AR51.rd t148 t145).f1))).setCell ⟨gb149, 2, none⟩ (.int .u32 ((AR51.rd t148 t145).f2))).heap[gb143]? = some (.cells #[.string (⟨#[]⟩ : ByteArray), .int .u16 0, .int .u32 0] 31 (0, 0))) := ⟨zV⟩
                have n2_ : Aside0 ((((w43.setCell ⟨gb149, 0, none⟩ (.string ((AR51.rd t148 t145).f0))).setCell ⟨gb149, 1, none⟩ (.int .u16 ((AR51.rd t148 t145).f1))).setCell ⟨gb149, 2, none⟩ (.int .u32 ((AR51.rd t148 t145).f2))).heap[gb149]? = some (.cells #[.string ((AR51.rd t148 t145).f0), .int .u16 ((AR51.rd t148 t145).f1), .int .u32 ((AR51.rd t148 t145).f2)] 31 (0, 0))) := ⟨zV⟩
                have n3_ : Aside0 (IsS53 w0 (((w43.setCell ⟨gb149, 0, none⟩ (.string ((AR51.rd t148 t145).f0))).setCell ⟨gb149, 1, none⟩ (.int .u16 ((AR51.rd t148 t145).f1))).setCell ⟨gb149, 2, none⟩ (.int .u32 ((AR51.rd t148 t145).f2))) g t148) := ⟨by repeat (first | (with_reducible first | exact HI0.out | apply IsS53.alloc | apply IsS53.drewN | apply IsS53.drew | refine IsS53.putAt ?_ rfl rfl (by assumption) (by assumption) | apply IsS53.putAll | refine IsS53.far ?_ NB0_142.out _ | refine IsS53.far ?_ NB0_143.out _ | refine IsS53.far ?_ NB0_149.out _) | exact HI0.out)⟩
                have n4_ : Aside0 (KeepBut w (((w43.setCell ⟨gb149, 0, none⟩ (.string ((AR51.rd t148 t145).f0))).setCell ⟨gb149, 1, none⟩ (.int .u16 ((AR51.rd t148 t145).f1))).setCell ⟨gb149, 2, none⟩ (.int .u32 ((AR51.rd t148 t145).f2))) g none) := ⟨by repeat (first | (with_reducible first | exact HK.out | apply KeepBut.set_ | apply keep_drewN | apply keep_drew | apply keep_alloc | refine keep_far ?_ GW142.out _ | refine keep_far ?_ GW143.out _ | refine keep_far ?_ GW149.out _) | exact HK.out)⟩
                have n5_ : Aside0 (Below w0.heap.size w0 (((w43.setCell ⟨gb149, 0, none⟩ (.string ((AR51.rd t148 t145).f0))).setCell ⟨gb149, 1, none⟩ (.int .u16 ((AR51.rd t148 t145).f1))).setCell ⟨gb149, 2, none⟩ (.int .u32 ((AR51.rd t148 t145).f2)))) := ⟨by repeat (first | (with_reducible first | exact HB.out | apply below_alloc | apply pw_below_drewN | apply below_drew1 | refine below_set ?_ (IsS53.ge HI0.out) | refine below_set ?_ GE142.out | refine below_set ?_ GE143.out | refine below_set ?_ GE149.out) | exact HB.out)⟩
                (try clear BK142)
                (try clear BK143)
                (try clear BK149)
                (try clear HI0)
                (try clear HK)
                (try clear HB)
                generalize (((w43.setCell ⟨gb149, 0, none⟩ (.string ((AR51.rd t148 t145).f0))).setCell ⟨gb149, 1, none⟩ (.int .u16 ((AR51.rd t148 t145).f1))).setCell ⟨gb149, 2, none⟩ (.int .u32 ((AR51.rd t148 t145).f2))) = w48 at n0_ n1_ n2_ n3_ n4_ n5_ ⊢
                have BK142 := n0_
                have BK143 := n1_
                have BK149 := n2_
                have HI0 := n3_
                have HK := n4_
                have HB := n5_
                clear n0_ n1_ n2_ n3_ n4_ n5_
                have n0_ := Aside0.mk (blk_drew BK142.out)
                have n1_ := Aside0.mk (blk_drew BK143.out)
                have n2_ := Aside0.mk (blk_drew BK149.out)
                have n3_ := Aside0.mk (IsS53.drew HI0.out)
                have n4_ := Aside0.mk (keep_drew HK.out)
                have n5_ := Aside0.mk (below_drew1 HB.out)
                clear BK142
                clear BK143
                clear BK149
                clear HI0
                clear HK
                clear HB
                have BK142 := n0_
                have BK143 := n1_
                have BK149 := n2_
                have HI0 := n3_
                have HK := n4_
                have HB := n5_
                clear n0_ n1_ n2_ n3_ n4_ n5_
                refine start_ (n := 7) (S := fun w' => w'.cell? ⟨gb142, 0, none⟩ = some (.string a1_0) ∧ w'.cell? ⟨gb142, 1, none⟩ = some (.int .u16 a1_1) ∧ w'.cell? ⟨gb142, 2, none⟩ = some (.int .u32 a1_2)) (ds := []) #[false, false, false, false, false, false, false] (by kernel_rfl) rfl rfl ⟨(blk_cell BK142.out 0).trans rfl, (blk_cell BK142.out 1).trans rfl, (blk_cell BK142.out 2).trans rfl⟩ (fun hHeld => ?_)
                generalize w48.drew = w49 at BK142 BK143 BK149 HI0 HK HB hHeld ⊢
                refine pure_ (i := 0) (N := some 37) (v := ?_) (a' := ?_) #[true, false, false, false, false, false, false] rfl rfl (by kernel_rfl) (fun _ _ _ h => h) (Or.inl ⟨by rfl, ?_⟩) ?_ ?_
                rotate_left
                · exact zY
                rotate_left
                · exact zA
                refine pure_ (i := 1) (N := some 38) (v := ?_) (a' := ?_) #[true, true, false, false, false, false, false] rfl rfl (by kernel_rfl) (fun _ _ _ h => h) (Or.inl ⟨by rfl, ?_⟩) ?_ ?_
                rotate_left
                · exact zY
                rotate_left
                · exact zA
                refine pure_ (i := 3) (N := some 40) (v := ?_) (a' := ?_) #[true, true, false, true, false, false, false] rfl rfl (by kernel_rfl) (fun _ _ _ h => h) (Or.inl ⟨by rfl, ?_⟩) ?_ ?_
                rotate_left
                · exact zY
                rotate_left
                · exact zA
                refine pure_ (i := 4) (N := some 41) (v := ?_) (a' := ?_) #[true, true, false, true, true, false, false] rfl rfl (by kernel_rfl) (fun _ _ _ h => h) (Or.inl ⟨by rfl, ?_⟩) ?_ ?_
                rotate_left
                · exact zY
                rotate_left
                · exact zA
                refine take_ (i := 2) (N := some 39) (v := ?_) (a' := ?_) #[true, true, true, true, true, false, false] rfl rfl (by kernel_rfl) (fun _ _ _ h => h) (Or.inl ⟨by rfl, ?_⟩) hHeld ?_ ?_
                rotate_left
                · rintro w' ⟨s0, s1, s2⟩
                  go_simp
                  with_reducible rfl
                rotate_left
                · exact zA
                refine pure_ (i := 5) (N := some 42) (v := ?_) (a' := ?_) #[true, true, true, true, true, true, false] rfl rfl (by kernel_rfl) (fun _ _ _ h => h) (Or.inl ⟨by rfl, ?_⟩) ?_ ?_
                rotate_left
                · exact zY
                rotate_left
                · exact zA
                refine one_ (i := 6) (N := none) #[true, true, true, true, true, true, true] rfl rfl (by kernel_rfl) (by decide) (fun K hK => ?_)
                obtain ⟨hs50_0, hs50_1, hs50_2⟩ := AR51.at_ (show IsS53 w0 _ g t148 from by repeat (first | (with_reducible first | exact HI0.out | apply IsS53.alloc | apply IsS53.drewN | apply IsS53.drew | refine IsS53.putAt ?_ rfl rfl (by assumption) (by assumption) | apply IsS53.putAll | refine IsS53.far ?_ NB0_142.out _ | refine IsS53.far ?_ NB0_143.out _ | refine IsS53.far ?_ NB0_149.out _) | exact HI0.out)).1 t145 (of_decide_eq_true (by first | (with_reducible assumption) | assumption)) (of_decide_eq_true (by first | (with_reducible assumption) | assumption))
                obtain ⟨hfs50_0, hfs50_1, hfs50_2⟩ := AR51.fz (show IsS53 w0 _ g t148 from by repeat (first | (with_reducible first | exact HI0.out | apply IsS53.alloc | apply IsS53.drewN | apply IsS53.drew | refine IsS53.putAt ?_ rfl rfl (by assumption) (by assumption) | apply IsS53.putAll | refine IsS53.far ?_ NB0_142.out _ | refine IsS53.far ?_ NB0_143.out _ | refine IsS53.far ?_ NB0_149.out _) | exact HI0.out)).1 t145
                have hns50_0 := NB142_0.out
                have hns50_1 := NB143_0.out
                have hns50_2 := NB149_0.out
                have hms50_0 := NB0_142.out
                have hms50_1 := NB0_143.out
                have hms50_2 := NB0_149.out
                refine skip_ (w1 := ?_) (by rfl) rfl ?_ ?_
                rotate_left
                · go_simp
                  rfl
                refine hK.out _ _ ⟨(zh3 (Ne.symm NB0_142.out) hHeld.1), (zh3 (Ne.symm NB0_142.out) hHeld.2.1), (zh3 (Ne.symm NB0_142.out) hHeld.2.2)⟩ (fun hHeld => ?_)
                clear hK K
                refine done_ (by kernel_rfl) ?_
                try go_wp2
                have n0_ : Aside0 ((((w49.setCell ⟨g, (t145 : Int).toNat * 3, none⟩ ((.string a1_0))).setCell ⟨g, (t145 : Int).toNat * 3 + 1, none⟩ ((.int .u16 a1_1))).setCell ⟨g, (t145 : Int).toNat * 3 + 2, none⟩ ((.int .u32 a1_2))).heap[gb142]? = some (.cells #[.string a1_0, .int .u16 a1_1, .int .u32 a1_2] 31 (0, 0))) := ⟨zV⟩
                have n1_ : Aside0 ((((w49.setCell ⟨g, (t145 : Int).toNat * 3, none⟩ ((.string a1_0))).setCell ⟨g, (t145 : Int).toNat * 3 + 1, none⟩ ((.int .u16 a1_1))).setCell ⟨g, (t145 : Int).toNat * 3 + 2, none⟩ ((.int .u32 a1_2))).heap[gb143]? = some (.cells #[.string (⟨#[]⟩ : ByteArray), .int .u16 0, .int .u32 0] 31 (0, 0))) := ⟨zV⟩
                have n2_ : Aside0 ((((w49.setCell ⟨g, (t145 : Int).toNat * 3, none⟩ ((.string a1_0))).setCell ⟨g, (t145 : Int).toNat * 3 + 1, none⟩ ((.int .u16 a1_1))).setCell ⟨g, (t145 : Int).toNat * 3 + 2, none⟩ ((.int .u32 a1_2))).heap[gb149]? = some (.cells #[.string ((AR51.rd t148 t145).f0), .int .u16 ((AR51.rd t148 t145).f1), .int .u32 ((AR51.rd t148 t145).f2)] 31 (0, 0))) := ⟨zV⟩
                have n3_ : Aside0 (IsS53 w0 (((w49.setCell ⟨g, (t145 : Int).toNat * 3, none⟩ ((.string a1_0))).setCell ⟨g, (t145 : Int).toNat * 3 + 1, none⟩ ((.int .u16 a1_1))).setCell ⟨g, (t145 : Int).toNat * 3 + 2, none⟩ ((.int .u32 a1_2))) g (AR51.up t148 t145 (⟨a1_0, a1_1, a1_2⟩ : S31))) := ⟨by repeat (first | (with_reducible first | exact HI0.out | apply IsS53.alloc | apply IsS53.drewN | apply IsS53.drew | refine IsS53.putAt ?_ rfl rfl (by assumption) (by assumption) | apply IsS53.putAll | refine IsS53.far ?_ NB0_142.out _ | refine IsS53.far ?_ NB0_143.out _ | refine IsS53.far ?_ NB0_149.out _) | exact HI0.out)⟩
                have n4_ : Aside0 (KeepBut w (((w49.setCell ⟨g, (t145 : Int).toNat * 3, none⟩ ((.string a1_0))).setCell ⟨g, (t145 : Int).toNat * 3 + 1, none⟩ ((.int .u16 a1_1))).setCell ⟨g, (t145 : Int).toNat * 3 + 2, none⟩ ((.int .u32 a1_2))) g none) := ⟨by repeat (first | (with_reducible first | exact HK.out | apply KeepBut.set_ | apply keep_drewN | apply keep_drew | apply keep_alloc | refine keep_far ?_ GW142.out _ | refine keep_far ?_ GW143.out _ | refine keep_far ?_ GW149.out _) | exact HK.out)⟩
                have n5_ : Aside0 (Below w0.heap.size w0 (((w49.setCell ⟨g, (t145 : Int).toNat * 3, none⟩ ((.string a1_0))).setCell ⟨g, (t145 : Int).toNat * 3 + 1, none⟩ ((.int .u16 a1_1))).setCell ⟨g, (t145 : Int).toNat * 3 + 2, none⟩ ((.int .u32 a1_2)))) := ⟨by repeat (first | (with_reducible first | exact HB.out | apply below_alloc | apply pw_below_drewN | apply below_drew1 | refine below_set ?_ (IsS53.ge HI0.out) | refine below_set ?_ GE142.out | refine below_set ?_ GE143.out | refine below_set ?_ GE149.out) | exact HB.out)⟩
                (try clear BK142)
                (try clear BK143)
                (try clear BK149)
                (try clear HI0)
                (try clear HK)
                (try clear HB)
                generalize (((w49.setCell ⟨g, (t145 : Int).toNat * 3, none⟩ ((.string a1_0))).setCell ⟨g, (t145 : Int).toNat * 3 + 1, none⟩ ((.int .u16 a1_1))).setCell ⟨g, (t145 : Int).toNat * 3 + 2, none⟩ ((.int .u32 a1_2))) = w51 at n0_ n1_ n2_ n3_ n4_ n5_ ⊢
                have BK142 := n0_
                have BK143 := n1_
                have BK149 := n2_
                have HI0 := n3_
                have HK := n4_
                have HB := n5_
                clear n0_ n1_ n2_ n3_ n4_ n5_
                have n0_ := Aside0.mk (blk_drew BK142.out)
                have n1_ := Aside0.mk (blk_drew BK143.out)
                have n2_ := Aside0.mk (blk_drew BK149.out)
                have n3_ := Aside0.mk (IsS53.drew HI0.out)
                have n4_ := Aside0.mk (keep_drew HK.out)
                have n5_ := Aside0.mk (below_drew1 HB.out)
                clear BK142
                clear BK143
                clear BK149
                clear HI0
                clear HK
                clear HB
                have BK142 := n0_
                have BK143 := n1_
                have BK149 := n2_
                have HI0 := n3_
                have HK := n4_
                have HB := n5_
                clear n0_ n1_ n2_ n3_ n4_ n5_
                refine start_ (n := 5) (S := fun w' => w'.cell? ⟨gb149, 0, none⟩ = some (.string ((AR51.rd t148 t145).f0)) ∧ w'.cell? ⟨gb149, 1, none⟩ = some (.int .u16 ((AR51.rd t148 t145).f1)) ∧ w'.cell? ⟨gb149, 2, none⟩ = some (.int .u32 ((AR51.rd t148 t145).f2))) (ds := []) #[false, false, false, false, false] (by kernel_rfl) rfl rfl ⟨(blk_cell BK149.out 0).trans rfl, (blk_cell BK149.out 1).trans rfl, (blk_cell BK149.out 2).trans rfl⟩ (fun hHeld => ?_)
                generalize w51.drew = w52 at BK142 BK143 BK149 HI0 HK HB hHeld ⊢
                refine pure_ (i := 0) (N := some 43) (v := ?_) (a' := ?_) #[true, false, false, false, false] rfl rfl (by kernel_rfl) (fun _ _ _ h => h) (Or.inl ⟨by rfl, ?_⟩) ?_ ?_
                rotate_left
                · exact zY
                rotate_left
                · exact zA
                refine pure_ (i := 2) (N := some 4) (v := ?_) (a' := ?_) #[true, false, true, false, false] rfl rfl (by kernel_rfl) (fun _ _ _ h => h) (Or.inl ⟨by rfl, ?_⟩) ?_ ?_
                rotate_left
                · exact zY
                rotate_left
                · exact zA
                refine take_ (i := 1) (N := some 44) (v := ?_) (a' := ?_) #[true, true, true, false, false] rfl rfl (by kernel_rfl) (fun _ _ _ h => h) (Or.inl ⟨by rfl, ?_⟩) hHeld ?_ ?_
                rotate_left
                · rintro w' ⟨s0, s1, s2⟩
                  go_simp
                  with_reducible rfl
                rotate_left
                · exact zA
                refine one_ (i := 3) (N := none) #[true, true, true, true, false] rfl rfl (by kernel_rfl) (by decide) (fun K hK => ?_)
                obtain ⟨hs53, hs54, hs55⟩ := zc3 BK143
                obtain ⟨hfs53, hfs54, hfs55⟩ := zf3 BK143
                have hns53_0 := NB142_143.out
                have hns53_2 := NB149_143.out
                have hms53_0 := NB143_142.out
                have hms53_2 := NB143_149.out
                refine skip_ (w1 := ?_) (by rfl) rfl ?_ ?_
                rotate_left
                · go_simp
                  rfl
                refine hK.out _ _ ⟨(zh3 NB149_143.out hHeld.1), (zh3 NB149_143.out hHeld.2.1), (zh3 NB149_143.out hHeld.2.2)⟩ (fun hHeld => ?_)
                clear hK K
                refine pure_ (i := 4) (N := some 6) (v := ?_) (a' := ?_) #[true, true, true, true, true] rfl rfl (by kernel_rfl) (fun _ _ _ h => h) (Or.inl ⟨by rfl, ?_⟩) ?_ ?_
                rotate_left
                · exact zY
                rotate_left
                · exact zA
                refine done_ (by kernel_rfl) ?_
                try go_wp2
                refine bodyPost_ret (results_list (rs := [.tmp 4, .cell 5 31, .tmp 6]) rfl (by simp) (.tmp (.cell gb143 31 #[.string ((AR51.rd t148 t145).f0), .int .u16 ((AR51.rd t148 t145).f1), .int .u32 ((AR51.rd t148 t145).f2)] (0, 0) _ rfl zV Tryd.underlying31 rfl (by kernel_rfl) (.tmp .nil)))) rfl ?_
                exact ⟨zF, by repeat (first | (with_reducible first | exact HI0.out | apply IsS53.alloc | apply IsS53.drewN | apply IsS53.drew | refine IsS53.putAt ?_ rfl rfl (by assumption) (by assumption) | apply IsS53.putAll | refine IsS53.far ?_ NB0_142.out _ | refine IsS53.far ?_ NB0_143.out _ | refine IsS53.far ?_ NB0_149.out _) | exact HI0.out), by repeat (first | (with_reducible first | exact HB.out | apply below_alloc | apply pw_below_drewN | apply below_drew1 | refine below_set ?_ (IsS53.ge HI0.out) | refine below_set ?_ GE142.out | refine below_set ?_ GE143.out | refine below_set ?_ GE149.out) | exact HB.out), by repeat (first | (with_reducible first | exact HK.out | apply KeepBut.set_ | apply keep_drewN | apply keep_drew | apply keep_alloc | refine keep_far ?_ GW142.out _ | refine keep_far ?_ GW143.out _ | refine keep_far ?_ GW149.out _) | exact HK.out)⟩
              · rw [if_neg c34] at H
                exact absurd H (by simp)
            · rw [if_neg c33] at H
              exact absurd H (by simp)

end Go.Proofs.YtlgmboaoemlnpaaDoor.P
