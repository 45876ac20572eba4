-- WRITTEN BY bud.py (a program of this session's over the kit's print). Not trusted: Lean checks it.
import Derived.Test.YtlgmboaoemlnpaaDoorPx0
import Derived.Test.YtlgmboaoemlnpaaDoorPxf
import Derived.Test.YtlgmboaoemlnpaaDoorPx1
import Derived.Test.YtlgmboaoemlnpaaDoorGtIdx
namespace Go.Proofs.YtlgmboaoemlnpaaDoor.P
open Go.RowKit Go.Proofs.YtlgmboaoemlnpaaDoorW.PrintWords Go.Proofs.YtlgmboaoemlnpaaDoorW.PrintLast Go.Proofs.YtlgmboaoemlnpaaDoorW.PrintMore
attribute [local go_sem] max2_int min2_int max_two min_two max_three min_three max_four min_four   -- for this text's walks alone
set_option linter.unusedVariables false
set_option linter.unusedSimpArgs false

attribute [local go_sem high] eqA31
/-! ### gate_Table_owned: function 22 -/
set_option maxHeartbeats 8000000 in
set_option maxRecDepth 100000 in
theorem gate_Table_owned.calls (g : Nat) (s0_0 : AR51) (a1 : Int) (r1 : Bool) (r2 : AR51) (w0 w : World) (hI : IsS53 w0 w g s0_0) (hB : Below w0.heap.size w0 w) (h : gate_Table_owned.f s0_0 a1 = some (r1, r2)) :
    Calls Tryd.prog 22 #[.pointer (some ⟨g, 0, none⟩), .int .u16 a1] w fun e w' => e = .returned (.bool r1) ∧ IsS53 w0 w' g r2 ∧ Below w0.heap.size w0 w' ∧ KeepBut w w' g none := by
  have HI0 := Aside0.mk hI
  have HK := Aside0.mk (KeepBut.refl w g none)
  have HL := Aside0.mk hB.size
  clear hI
  have HW0 := Aside0.mk hB.size
  have HB := Aside0.mk hB
  clear hB
  have H : ((gt_owned.f s0_0 a1).bind fun bt118 => (some (decide (bt118.1 ≥ 0), bt118.2))) = some (r1, r2) := h
  clear h
  replace H := Option.bind_eq_some_iff.mp H
  obtain ⟨⟨t118, t119⟩, A30, H⟩ := H
  replace H : (some (decide (t118 ≥ 0), t119)) = some (r1, r2) := H
  have A3 := Aside0.mk A30
  clear A30
  simp only [Option.some.injEq, Prod.mk.injEq] at H
  obtain ⟨rfl, rfl⟩ := H
  go_enter Tryd.func22, Tryd.ntmps22
  go_wp2_with (first | ((with_reducible refine gate_dst (N := 3) rfl ?_); refine zX (N := 3) (cs := #[.int .u16 a1]) (t := 28) ?_ ?_; (focus first | (go_simp; done) | (go_simp; rfl)); intro gb117 hg w4 hbox hb; have BK117 := Aside0.mk (hbox); have GW117 := Aside0.mk ((by rw [hg]; exact (keep_size (w := w) (g := g) (row := none) (by repeat (first | (with_reducible first | exact HK.out | apply KeepBut.set_ | apply keep_drewN | apply keep_drew | apply keep_alloc) | exact HK.out))) : w.heap.size ≤ gb117)); have GE117 := Aside0.mk ((Nat.le_trans HW0.out (by rw [hg]; exact (keep_size (w := w) (g := g) (row := none) (by repeat (first | (with_reducible first | exact HK.out | apply KeepBut.set_ | apply keep_drewN | apply keep_drew | apply keep_alloc) | exact HK.out))) : w.heap.size ≤ gb117) : w0.heap.size ≤ gb117)); have NB0_117 := Aside0.mk ((by rw [hg]; exact Nat.ne_of_lt (IsS53.lt (show IsS53 w0 _ g s0_0 from by repeat (first | (with_reducible first | exact HI0.out | apply IsS53.alloc | apply IsS53.drewN | apply IsS53.drew | refine IsS53.putAt ?_ rfl rfl (by assumption) (by assumption) | apply IsS53.putAll) | exact HI0.out))) : g ≠ gb117)); have NB117_0 := Aside0.mk ((by rw [hg]; exact Nat.ne_of_gt (IsS53.lt (show IsS53 w0 _ g s0_0 from by repeat (first | (with_reducible first | exact HI0.out | apply IsS53.alloc | apply IsS53.drewN | apply IsS53.drew | refine IsS53.putAt ?_ rfl rfl (by assumption) (by assumption) | apply IsS53.putAll) | exact HI0.out))) : gb117 ≠ g)); replace HK := Aside0.mk (KeepBut.trans (by repeat (first | (with_reducible first | exact HK.out | apply KeepBut.set_ | apply keep_drewN | apply keep_drew | apply keep_alloc) | exact HK.out)) (KeepBut.of_below hb g none) (.inl rfl)); replace HB := Aside0.mk (below_step (by repeat (first | (with_reducible first | exact HB.out | apply below_alloc | apply pw_below_drewN | apply below_drew1 | refine below_set ?_ (IsS53.ge HI0.out)) | exact HB.out)) hb); replace HI0 := Aside0.mk (IsS53.below (by repeat (first | (with_reducible first | exact HI0.out | apply IsS53.alloc | apply IsS53.drewN | apply IsS53.drew | refine IsS53.putAt ?_ rfl rfl (by assumption) (by assumption) | apply IsS53.putAll) | exact HI0.out)) hb); clear hb hbox hg) | ((with_reducible refine gate_callee (f := 23) rfl ?_); refine zG (some 7) Tryd.func23 #[.pointer (some ⟨g, 0, none⟩), .func (.func 33) #[] #[.pointer (some ⟨gb117, 0, none⟩)]] ?_; (with_reducible refine (gt_owned.calls g s0_0 gb117 a1 t118 t119 w0 _ ?side1 ?side2 ?side3 A3.out).mono ?_); (case side1 => repeat (first | (with_reducible first | exact HI0.out | apply IsS53.alloc | apply IsS53.drewN | apply IsS53.drew | refine IsS53.putAt ?_ rfl rfl (by assumption) (by assumption) | apply IsS53.putAll | refine IsS53.far ?_ NB0_117.out _) | exact HI0.out)); (case side2 => repeat (first | (with_reducible first | exact HB.out | apply below_alloc | apply pw_below_drewN | apply below_drew1 | refine below_set ?_ (IsS53.ge HI0.out) | refine below_set ?_ GE117.out) | exact HB.out)); (case side3 => exact zK); rintro e w5 ⟨rfl, hi, hb, hk⟩; refine ⟨_, rfl, ?_⟩; replace BK117 := Aside0.mk (KeepBut.blk hk (g' := gb117) (o := .cells #[.int .u16 a1] 28 (0, 0)) zK NB117_0.out (by simp)); replace HK := Aside0.mk (KeepBut.trans (by repeat (first | (with_reducible first | exact HK.out | apply KeepBut.set_ | apply keep_drewN | apply keep_drew | apply keep_alloc | refine keep_far ?_ GW117.out _) | exact HK.out)) hk (.inl rfl)); replace HI0 := Aside0.mk (hi); replace HB := Aside0.mk (hb); (try clear hb); (try clear hb2); (try clear hk); (try clear hi)))
  go_ret
  exact ⟨zF, by repeat (first | (with_reducible first | exact HI0.out | apply IsS53.alloc | apply IsS53.drewN | apply IsS53.drew | refine IsS53.putAt ?_ rfl rfl (by assumption) (by assumption) | apply IsS53.putAll | refine IsS53.far ?_ NB0_117.out _) | exact HI0.out), by repeat (first | (with_reducible first | exact HB.out | apply below_alloc | apply pw_below_drewN | apply below_drew1 | refine below_set ?_ (IsS53.ge HI0.out) | refine below_set ?_ GE117.out) | exact HB.out), by repeat (first | (with_reducible first | exact HK.out | apply KeepBut.set_ | apply keep_drewN | apply keep_drew | apply keep_alloc | refine keep_far ?_ GW117.out _) | exact HK.out)⟩

/-! ### gate_Table_Open_1: function 24 -/
set_option maxHeartbeats 8000000 in
set_option maxRecDepth 100000 in
theorem gate_Table_Open_1.calls (a0_0 : ByteArray) (a0_1 : Int) (a0_2 : Int) (r : Bool) (w : World) (h : gate_Table_Open_1.f a0_0 a0_1 a0_2 = some r) :
    Calls Tryd.prog 24 #[.agg #[.string a0_0, .int .u16 a0_1, .int .u32 a0_2]] w fun e w' => e = .returned (.bool r) ∧ Below w.heap.size w w' := by
  have hu31 := Tryd.underlying31
  have HB := Aside0.mk (Below.refl w.heap.size w)
  have H : (some (a0_0.toList == ([] : List UInt8) && (a0_1 == 0 && (a0_2 == 0)))) = some r := h
  clear h
  obtain rfl := Option.some.inj H
  go_enter Tryd.func24, Tryd.ntmps24
  go_wp2_with (first | ((with_reducible refine gate_dst (N := 1) rfl ?_); refine zX (N := 1) (cs := #[.string a0_0, .int .u16 a0_1, .int .u32 a0_2]) (t := 31) ?_ ?_; (focus first | (go_simp; done) | (go_simp; rfl)); intro gb120 hg w2 hbox hb; have BK120 := Aside0.mk (hbox); have GW120 := Aside0.mk (zS hg : w.heap.size ≤ gb120); have GE120 := Aside0.mk (zS hg : w.heap.size ≤ gb120); replace HB := Aside0.mk (below_step zB hb); clear hb hbox hg; obtain ⟨hcz3_0, hcz3_1, hcz3_2⟩ := zc3 BK120; obtain ⟨hfz3_0, hfz3_1, hfz3_2⟩ := zf3 BK120))
  go_ret
  exact ⟨zF, zB⟩

end Go.Proofs.YtlgmboaoemlnpaaDoor.P
