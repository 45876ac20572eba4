import Derived.Test.YtlgmboaoemlnpaaDoorPxf
import Derived.Shelf.SlicesQ.IndexFunc
import Derived.Ground.SlgfProg
import Derived.Lib.SliceRun
/- Gate: find with its three closures. -/
namespace Go.Proofs
open Go.Shelf Go.RowKit Go.Lib
def Tryd.gtIdx_ren : Go.Shelf.Ren := ⟨fun | 6 => 34 | n => n, fun | 22 => 70 | 23 => 31 | 25 => 55 | 3 => 3 | 0 => 0 | 4 => 4 | n => n, fun | n => n⟩
theorem Tryd.gtIdx : Go.Proofs.SlLaysH0.n6 Tryd.prog Tryd.gtIdx_ren := {
  mixed := by kernel_rfl
  f6 := ⟨Tryd.f34.name, by decide, Tryd.func34.trans (congrArg some (by kernel_rfl))⟩
  t0 := Tryd.underlying0
  a0 := Tryd.isAgg0
  z0 := Tryd.sizeOf0
  v0 := Tryd.zeroValue0
  t3 := Tryd.underlying3
  a3 := Tryd.isAgg3
  z3 := Tryd.sizeOf3
  v3 := Tryd.zeroValue3
  t4 := Tryd.underlying4
  a4 := Tryd.isAgg4
  z4 := Tryd.sizeOf4
  v4 := Tryd.zeroValue4
  t22 := Tryd.underlying70
  a22 := Tryd.isAgg70
  z22 := Tryd.sizeOf70
  v22 := Tryd.zeroValue70
  t25 := Tryd.underlying55
  a25 := Tryd.isAgg55
  z25 := Tryd.sizeOf55
  v25 := Tryd.zeroValue55 }
end Go.Proofs
namespace Go.Proofs.YtlgmboaoemlnpaaDoor.P
open Go.Shelf Go.RowKit Go.Lib Go.Proofs.YtlgmboaoemlnpaaDoorW.PrintWords Go.Proofs.YtlgmboaoemlnpaaDoorW.PrintLast Go.Proofs.YtlgmboaoemlnpaaDoorW.PrintMore
set_option linter.unusedVariables false
set_option linter.unusedSimpArgs false
theorem rows31 {w : World} {g : Nat} {s : AR51} {t : TypeId} (h : w.heap[g]? = some (.cells s.enc t (0, 0))) (j : Nat) (hj : j < 8) :
    w.cell? ((⟨g, 0, none⟩ : Addr).add (j * 3)) = some (.string s.list[j]!.f0) ∧ w.cell? ⟨((⟨g, 0, none⟩ : Addr).add (j * 3)).block, ((⟨g, 0, none⟩ : Addr).add (j * 3)).off + 1, none⟩ = some (.int .u16 s.list[j]!.f1) ∧ w.cell? ⟨((⟨g, 0, none⟩ : Addr).add (j * 3)).block, ((⟨g, 0, none⟩ : Addr).add (j * 3)).off + 2, none⟩ = some (.int .u32 s.list[j]!.f2) := by
  simp only [Addr.add_mid, Nat.zero_add]
  match j, hj with
  | 0, _ | 1, _ | 2, _ | 3, _ | 4, _ | 5, _ | 6, _ | 7, _ => exact ⟨(blk_cell h _).trans rfl, (blk_cell h _).trans rfl, (blk_cell h _).trans rfl⟩
set_option maxHeartbeats 8000000 in
set_option maxRecDepth 100000 in
theorem pOf_walk (m : ByteArray) (b0 : Nat) (w : World) (l0 : b0 < w.heap.size) (hr0 : w.cell? ⟨b0, 0, none⟩ = some (.string m)) :
    PredBelow Tryd.prog 32 #[.pointer (some ⟨b0, 0, none⟩)] (fun x => .agg (enc31 x).toArray) (pOf m) w := fun W x hb => by
  have hu31 := Tryd.underlying31
  have c0 : W.cell? ⟨b0, 0, none⟩ = some (.string m) := (hb.cell (p := ⟨b0, 0, none⟩) l0).trans hr0
  clear hr0
  have n0 : b0 ≠ W.heap.size := by have := hb.size; omega
  show Calls Tryd.prog 32 #[.agg #[.string x.f0, .int .u16 x.f1, .int .u32 x.f2], .pointer (some ⟨b0, 0, none⟩)] W _
  unfold pOf isZ
  generalize x.f0 = f0
  generalize x.f1 = f1
  generalize x.f2 = f2
  have k0 := Lib.cell?_alloc_some (.cells #[.string f0, .int .u16 f1, .int .u32 f2] 31) c0
  have fin0 : ∀ n, Below w.heap.size w ((W.alloc (.cells #[.string f0, .int .u16 f1, .int .u32 f2] 31)).drewN n) := fun n => pw_below_drewN (hb.alloc hb.size _) n
  have FIN := Aside0.mk fin0
  have FIN2 := Aside0.mk (show Below w.heap.size w (W.alloc (.cells #[.string f0, .int .u16 f1, .int .u32 f2] 31)) from hb.alloc hb.size _)
  obtain ⟨D, hD⟩ : ∃ D, (f0.toList == m.toList) = D := ⟨_, rfl⟩
  rw [hD]
  clear fin0 c0
  by_cases z0 : f0.toList = []
  · have b0 : (f0.toList == ([] : List UInt8)) = true := beq_iff_eq.mpr z0
    by_cases z1 : f1 = 0
    · subst z1
      by_cases z2 : f2 = 0
      · subst z2
        rw [b0]
        show Calls _ _ _ _ fun e w' => e = .returned (.bool false) ∧ Below w.heap.size w w'
        go_enter Tryd.func32, Tryd.ntmps32
        go_wp2
        try go_wp2
        go_ret
        exact ⟨by first | rfl | (simp [hD]; done) | (simp [*]; done) | (simp only [Ending.returned.injEq, Value.bool.injEq]; rw [← hD, z0]; cases m.toList <;> rfl) | (simp; rw [← hD, z0]; cases m.toList <;> rfl), by first | exact FIN.out _ | exact FIN2.out⟩
      · have b2 : (f2 == 0) = false := beq_eq_false_iff_ne.mpr z2
        rw [b0, b2]
        show Calls _ _ _ _ fun e w' => e = .returned (.bool D) ∧ Below w.heap.size w w'
        go_enter Tryd.func32, Tryd.ntmps32
        go_wp2
        try go_wp2
        go_ret
        exact ⟨by first | rfl | (simp [hD]; done) | (simp [*]; done) | (simp only [Ending.returned.injEq, Value.bool.injEq]; rw [← hD, z0]; cases m.toList <;> rfl) | (simp; rw [← hD, z0]; cases m.toList <;> rfl), by first | exact FIN.out _ | exact FIN2.out⟩
    · have b1 : (f1 == 0) = false := beq_eq_false_iff_ne.mpr z1
      rw [b0, b1]
      show Calls _ _ _ _ fun e w' => e = .returned (.bool D) ∧ Below w.heap.size w w'
      go_enter Tryd.func32, Tryd.ntmps32
      go_wp2
      try go_wp2
      go_ret
      exact ⟨by first | rfl | (simp [hD]; done) | (simp [*]; done) | (simp only [Ending.returned.injEq, Value.bool.injEq]; rw [← hD, z0]; cases m.toList <;> rfl) | (simp; rw [← hD, z0]; cases m.toList <;> rfl), by first | exact FIN.out _ | exact FIN2.out⟩
  · have b0 : (f0.toList == ([] : List UInt8)) = false := beq_eq_false_iff_ne.mpr z0
    rw [b0]
    show Calls _ _ _ _ fun e w' => e = .returned (.bool D) ∧ Below w.heap.size w w'
    go_enter Tryd.func32, Tryd.ntmps32
    go_wp2
    try go_wp2
    go_ret
    exact ⟨by first | rfl | (simp [hD]; done) | (simp [*]; done) | (simp only [Ending.returned.injEq, Value.bool.injEq]; rw [← hD, z0]; cases m.toList <;> rfl) | (simp; rw [← hD, z0]; cases m.toList <;> rfl), by first | exact FIN.out _ | exact FIN2.out⟩
set_option maxHeartbeats 8000000 in
set_option maxRecDepth 100000 in
theorem pOwned_walk (o : Int) (b0 : Nat) (w : World) (l0 : b0 < w.heap.size) (hr0 : w.cell? ⟨b0, 0, none⟩ = some (.int .u16 o)) :
    PredBelow Tryd.prog 33 #[.pointer (some ⟨b0, 0, none⟩)] (fun x => .agg (enc31 x).toArray) (pOwned o) w := fun W x hb => by
  have hu31 := Tryd.underlying31
  have c0 : W.cell? ⟨b0, 0, none⟩ = some (.int .u16 o) := (hb.cell (p := ⟨b0, 0, none⟩) l0).trans hr0
  clear hr0
  have n0 : b0 ≠ W.heap.size := by have := hb.size; omega
  show Calls Tryd.prog 33 #[.agg #[.string x.f0, .int .u16 x.f1, .int .u32 x.f2], .pointer (some ⟨b0, 0, none⟩)] W _
  unfold pOwned
  generalize x.f0 = f0
  generalize x.f1 = f1
  generalize x.f2 = f2
  have k0 := Lib.cell?_alloc_some (.cells #[.string f0, .int .u16 f1, .int .u32 f2] 31) c0
  have fin0 : ∀ n, Below w.heap.size w ((W.alloc (.cells #[.string f0, .int .u16 f1, .int .u32 f2] 31)).drewN n) := fun n => pw_below_drewN (hb.alloc hb.size _) n
  have FIN := Aside0.mk fin0
  have FIN2 := Aside0.mk (show Below w.heap.size w (W.alloc (.cells #[.string f0, .int .u16 f1, .int .u32 f2] 31)) from hb.alloc hb.size _)
  clear fin0 c0
  go_enter Tryd.func33, Tryd.ntmps33
  go_wp2
  try go_wp2
  go_ret
  exact ⟨by first | rfl | (simp; done) | (simp [*]; done), by first | exact FIN.out _ | exact FIN2.out⟩
set_option maxHeartbeats 8000000 in
set_option maxRecDepth 100000 in
theorem isZ_walk (w : World) : PredBelow Tryd.prog 24 #[] (fun x => .agg (enc31 x).toArray) isZ w := fun W x hb => by
  have hu31 := Tryd.underlying31
  show Calls Tryd.prog 24 #[.agg #[.string x.f0, .int .u16 x.f1, .int .u32 x.f2]] W _
  unfold isZ
  generalize x.f0 = f0
  generalize x.f1 = f1
  generalize x.f2 = f2
  have HB := Aside0.mk hb
  clear hb
  go_enter Tryd.func24, Tryd.ntmps24
  go_wp2_with (first | ((with_reducible refine gate_dst (N := 1) rfl ?_); refine zX (N := 1) (cs := #[.string f0, .int .u16 f1, .int .u32 f2]) (t := 31) ?_ ?_; (focus first | (go_simp; done) | (go_simp; rfl)); intro gb120 hg w2 hbox hb; have BK120 := Aside0.mk (hbox); replace HB := Aside0.mk (below_step zB hb); clear hb hbox hg; obtain ⟨hcz3_0, hcz3_1, hcz3_2⟩ := zc3 BK120; obtain ⟨hfz3_0, hfz3_1, hfz3_2⟩ := zf3 BK120))
  all_goals (go_ret; exact ⟨by first | rfl | (simp [*]; done), zB⟩)
set_option maxHeartbeats 8000000 in
set_option maxRecDepth 100000 in
theorem gt_of.ix (g : Nat) (s : AR51) (b0 : Nat) (m : ByteArray) (t : TypeId) (w : World) (hs : w.heap[g]? = some (.cells s.enc t (0, 0))) (hb0 : w.heap[b0]? = some (.cells #[.string m] 9 (0, 0))) :
    Calls Tryd.prog 34 #[.slice (some ⟨g, 0, none⟩) 8 8, .func (.func 32) #[] #[.pointer (some ⟨b0, 0, none⟩)]] w fun e w' => e = .returned (.int .i64 (arIdx (pOf m) s)) ∧ Below w.heap.size w w' := by
  have ltg : g < w.heap.size := (Array.getElem?_eq_some_iff.1 hs).1
  have lt0 : b0 < w.heap.size := (Array.getElem?_eq_some_iff.1 hb0).1
  have cel : ∀ (v : Value) (t : Nat), w.heap[b0]? = some (.cells #[v] t (0, 0)) → w.cell? ⟨b0, 0, none⟩ = some v := fun v t hb => by simp [World.cell?, hb]
  have hp := pOf_walk m b0 w lt0 (cel _ 9 hb0)
  have eg : ∀ args w, (callFunc 32 args).run Tryd.prog w = .ok (.enter 32 args) w := enters_of Tryd.func32 (by kernel_rfl) rfl
  have hrow : ∀ (W : World), Below w.heap.size w W → ∀ j, j < 8 → W.cell? ((⟨g, 0, none⟩ : Addr).add (j * 3)) = some (.string s.list[j]!.f0) ∧ W.cell? ⟨((⟨g, 0, none⟩ : Addr).add (j * 3)).block, ((⟨g, 0, none⟩ : Addr).add (j * 3)).off + 1, none⟩ = some (.int .u16 s.list[j]!.f1) ∧ W.cell? ⟨((⟨g, 0, none⟩ : Addr).add (j * 3)).block, ((⟨g, 0, none⟩ : Addr).add (j * 3)).off + 2, none⟩ = some (.int .u32 s.list[j]!.f2) := fun W hW j hj => rows31 (blk_below hs hW) j hj
  have hlen : s.list.length = 8 := rfl
  unfold arIdx
  clear hs hb0
  generalize hzs : s.list = zs at *
  clear hzs
  generalize had : (⟨g, 0, none⟩ : Addr) = ad at *
  clear had ltg
  have Hrow := Aside0.mk hrow
  clear hrow
  go_enter Tryd.func34, Tryd.ntmps34
  go_wp2
  go_loopg [5, 8] 8 (fun gg _ s8 wr => ∃ kk : Nat, kk ≤ 8 ∧ 8 - kk ≤ gg ∧ s8 = .int .i64 kk ∧ Aside (Below w.heap.size w wr) ∧ Aside (∀ j, j < kk → pOf m zs[j]! = false))
  case atStart => exact ⟨0, Nat.zero_le _, by omega, rfl, Below.refl _ w, fun j hj => absurd hj (Nat.not_lt_zero _)⟩
  case round =>
    obtain ⟨kk, hkk, hgm, rfl, BW, A⟩ := hrel
    by_cases hlt : kk < 8
    · have hltz : (kk : Int) < 8 := by omega
      obtain ⟨l2, l3, l4⟩ := Hrow.out wr BW.out kk (by omega)
      have hcall : Calls Tryd.prog 32 #[.agg #[.string zs[kk]!.f0, .int .u16 zs[kk]!.f1, .int .u32 zs[kk]!.f2], .pointer (some ⟨b0, 0, none⟩)] wr fun e w' => e = .returned (.bool (pOf m zs[kk]!)) ∧ Below w.heap.size w w' := hp wr zs[kk]! BW.out
      clear hp Hrow
      generalize hy : zs[kk]! = y at l2 l3 l4 hcall
      have B : Aside (zs[kk]! = y) := hy
      clear hy
      cases hq : pOf m y with
      | true =>
        rw [hq] at hcall
        go_wp2_with (go_at_fn 32; refine hcall.mono ?_; rintro e w' ⟨rfl, hb'⟩)
        go_ret
        refine ⟨?_, hb'⟩
        have := Lib.idxBy_hit (fun _ y => pOf m y) zs 8 kk z31 hlt (by omega) (by show pOf m zs[kk]! = true; rw [B.out]; exact hq) A.out
        rw [← hlen, List.take_length] at this
        rw [this]
        rfl
      | false =>
        rw [hq] at hcall
        go_wp2_with (go_at_fn 32; refine hcall.mono ?_; rintro e w' ⟨rfl, hb'⟩)
        go_roundg (8 - (kk + 1))
        case measure => omega
        case rel =>
          refine ⟨kk + 1, by omega, by omega, by go_num, hb', (show Aside _ from fun j hj => ?_)⟩
          by_cases e : j = kk
          · subst e
            rw [B.out]; exact hq
          · exact A.out j (by omega)
    · have hltz : ¬ (kk : Int) < 8 := by omega
      have : kk = 8 := by omega
      subst this
      go_wp2
      go_ret
      refine ⟨?_, BW.out⟩
      have := Lib.idxBy_miss (fun _ y => pOf m y) zs 8 z31 A.out
      rw [← hlen, List.take_length] at this
      rw [this]
      rfl
set_option maxHeartbeats 8000000 in
set_option maxRecDepth 100000 in
theorem gt_of.calls (g : Nat) (s : AR51) (b0 : Nat) (m : ByteArray) (r1 : Int) (r2 : AR51) (w0 w : World) (hI : IsS53 w0 w g s) (hB : Below w0.heap.size w0 w) (hb0 : w.heap[b0]? = some (.cells #[.string m] 9 (0, 0))) (h : gt_of.f s m = some (r1, r2)) :
    Calls Tryd.prog 23 #[.pointer (some ⟨g, 0, none⟩), .func (.func 32) #[] #[.pointer (some ⟨b0, 0, none⟩)]] w fun e w' => e = .returned (.int .i64 r1) ∧ IsS53 w0 w' g r2 ∧ Below w0.heap.size w0 w' ∧ KeepBut w w' g none := by
  unfold gt_of.f at h
  simp only [Option.some.injEq, Prod.mk.injEq] at h
  obtain ⟨rfl, rfl⟩ := h
  have hc := gt_of.ix g s b0 m 53 w hI.1 hb0
  have HI := Aside0.mk hI
  have HB := Aside0.mk hB
  clear hI hB hb0
  go_enter Tryd.func23, Tryd.ntmps23
  go_wp2_with (go_at_call 34; refine hc.mono ?_; rintro e w' ⟨rfl, hb⟩)
  go_ret
  exact ⟨rfl, HI.out.below hb, below_step HB.out hb, KeepBut.of_below hb g none⟩
set_option maxHeartbeats 8000000 in
set_option maxRecDepth 100000 in
theorem gt_owned.ix (g : Nat) (s : AR51) (b0 : Nat) (m : Int) (t : TypeId) (w : World) (hs : w.heap[g]? = some (.cells s.enc t (0, 0))) (hb0 : w.heap[b0]? = some (.cells #[.int .u16 m] 28 (0, 0))) :
    Calls Tryd.prog 34 #[.slice (some ⟨g, 0, none⟩) 8 8, .func (.func 33) #[] #[.pointer (some ⟨b0, 0, none⟩)]] w fun e w' => e = .returned (.int .i64 (arIdx (pOwned m) s)) ∧ Below w.heap.size w w' := by
  have ltg : g < w.heap.size := (Array.getElem?_eq_some_iff.1 hs).1
  have lt0 : b0 < w.heap.size := (Array.getElem?_eq_some_iff.1 hb0).1
  have cel : ∀ (v : Value) (t : Nat), w.heap[b0]? = some (.cells #[v] t (0, 0)) → w.cell? ⟨b0, 0, none⟩ = some v := fun v t hb => by simp [World.cell?, hb]
  have hp := pOwned_walk m b0 w lt0 (cel _ 28 hb0)
  have eg : ∀ args w, (callFunc 33 args).run Tryd.prog w = .ok (.enter 33 args) w := enters_of Tryd.func33 (by kernel_rfl) rfl
  have hrow : ∀ (W : World), Below w.heap.size w W → ∀ j, j < 8 → W.cell? ((⟨g, 0, none⟩ : Addr).add (j * 3)) = some (.string s.list[j]!.f0) ∧ W.cell? ⟨((⟨g, 0, none⟩ : Addr).add (j * 3)).block, ((⟨g, 0, none⟩ : Addr).add (j * 3)).off + 1, none⟩ = some (.int .u16 s.list[j]!.f1) ∧ W.cell? ⟨((⟨g, 0, none⟩ : Addr).add (j * 3)).block, ((⟨g, 0, none⟩ : Addr).add (j * 3)).off + 2, none⟩ = some (.int .u32 s.list[j]!.f2) := fun W hW j hj => rows31 (blk_below hs hW) j hj
  have hlen : s.list.length = 8 := rfl
  unfold arIdx
  clear hs hb0
  generalize hzs : s.list = zs at *
  clear hzs
  generalize had : (⟨g, 0, none⟩ : Addr) = ad at *
  clear had ltg
  have Hrow := Aside0.mk hrow
  clear hrow
  go_enter Tryd.func34, Tryd.ntmps34
  go_wp2
  go_loopg [5, 8] 8 (fun gg _ s8 wr => ∃ kk : Nat, kk ≤ 8 ∧ 8 - kk ≤ gg ∧ s8 = .int .i64 kk ∧ Aside (Below w.heap.size w wr) ∧ Aside (∀ j, j < kk → pOwned m zs[j]! = false))
  case atStart => exact ⟨0, Nat.zero_le _, by omega, rfl, Below.refl _ w, fun j hj => absurd hj (Nat.not_lt_zero _)⟩
  case round =>
    obtain ⟨kk, hkk, hgm, rfl, BW, A⟩ := hrel
    by_cases hlt : kk < 8
    · have hltz : (kk : Int) < 8 := by omega
      obtain ⟨l2, l3, l4⟩ := Hrow.out wr BW.out kk (by omega)
      have hcall : Calls Tryd.prog 33 #[.agg #[.string zs[kk]!.f0, .int .u16 zs[kk]!.f1, .int .u32 zs[kk]!.f2], .pointer (some ⟨b0, 0, none⟩)] wr fun e w' => e = .returned (.bool (pOwned m zs[kk]!)) ∧ Below w.heap.size w w' := hp wr zs[kk]! BW.out
      clear hp Hrow
      generalize hy : zs[kk]! = y at l2 l3 l4 hcall
      have B : Aside (zs[kk]! = y) := hy
      clear hy
      cases hq : pOwned m y with
      | true =>
        rw [hq] at hcall
        go_wp2_with (go_at_fn 33; refine hcall.mono ?_; rintro e w' ⟨rfl, hb'⟩)
        go_ret
        refine ⟨?_, hb'⟩
        have := Lib.idxBy_hit (fun _ y => pOwned m y) zs 8 kk z31 hlt (by omega) (by show pOwned m zs[kk]! = true; rw [B.out]; exact hq) A.out
        rw [← hlen, List.take_length] at this
        rw [this]
        rfl
      | false =>
        rw [hq] at hcall
        go_wp2_with (go_at_fn 33; refine hcall.mono ?_; rintro e w' ⟨rfl, hb'⟩)
        go_roundg (8 - (kk + 1))
        case measure => omega
        case rel =>
          refine ⟨kk + 1, by omega, by omega, by go_num, hb', (show Aside _ from fun j hj => ?_)⟩
          by_cases e : j = kk
          · subst e
            rw [B.out]; exact hq
          · exact A.out j (by omega)
    · have hltz : ¬ (kk : Int) < 8 := by omega
      have : kk = 8 := by omega
      subst this
      go_wp2
      go_ret
      refine ⟨?_, BW.out⟩
      have := Lib.idxBy_miss (fun _ y => pOwned m y) zs 8 z31 A.out
      rw [← hlen, List.take_length] at this
      rw [this]
      rfl
set_option maxHeartbeats 8000000 in
set_option maxRecDepth 100000 in
theorem gt_owned.calls (g : Nat) (s : AR51) (b0 : Nat) (m : Int) (r1 : Int) (r2 : AR51) (w0 w : World) (hI : IsS53 w0 w g s) (hB : Below w0.heap.size w0 w) (hb0 : w.heap[b0]? = some (.cells #[.int .u16 m] 28 (0, 0))) (h : gt_owned.f s m = some (r1, r2)) :
    Calls Tryd.prog 23 #[.pointer (some ⟨g, 0, none⟩), .func (.func 33) #[] #[.pointer (some ⟨b0, 0, none⟩)]] w fun e w' => e = .returned (.int .i64 r1) ∧ IsS53 w0 w' g r2 ∧ Below w0.heap.size w0 w' ∧ KeepBut w w' g none := by
  unfold gt_owned.f at h
  simp only [Option.some.injEq, Prod.mk.injEq] at h
  obtain ⟨rfl, rfl⟩ := h
  have hc := gt_owned.ix g s b0 m 53 w hI.1 hb0
  have HI := Aside0.mk hI
  have HB := Aside0.mk hB
  clear hI hB hb0
  go_enter Tryd.func23, Tryd.ntmps23
  go_wp2_with (go_at_call 34; refine hc.mono ?_; rintro e w' ⟨rfl, hb⟩)
  go_ret
  exact ⟨rfl, HI.out.below hb, below_step HB.out hb, KeepBut.of_below hb g none⟩
set_option maxHeartbeats 8000000 in
set_option maxRecDepth 100000 in
theorem gt_free.ix (g : Nat) (s : AR51) (t : TypeId) (w : World) (hs : w.heap[g]? = some (.cells s.enc t (0, 0))) :
    Calls Tryd.prog 34 #[.slice (some ⟨g, 0, none⟩) 8 8, .func (.func 24) #[] #[]] w fun e w' => e = .returned (.int .i64 (arIdx (isZ) s)) ∧ Below w.heap.size w w' := by
  have ltg : g < w.heap.size := (Array.getElem?_eq_some_iff.1 hs).1
  have hp := isZ_walk w
  have eg : ∀ args w, (callFunc 24 args).run Tryd.prog w = .ok (.enter 24 args) w := enters_of Tryd.func24 (by kernel_rfl) rfl
  have hrow : ∀ (W : World), Below w.heap.size w W → ∀ j, j < 8 → W.cell? ((⟨g, 0, none⟩ : Addr).add (j * 3)) = some (.string s.list[j]!.f0) ∧ W.cell? ⟨((⟨g, 0, none⟩ : Addr).add (j * 3)).block, ((⟨g, 0, none⟩ : Addr).add (j * 3)).off + 1, none⟩ = some (.int .u16 s.list[j]!.f1) ∧ W.cell? ⟨((⟨g, 0, none⟩ : Addr).add (j * 3)).block, ((⟨g, 0, none⟩ : Addr).add (j * 3)).off + 2, none⟩ = some (.int .u32 s.list[j]!.f2) := fun W hW j hj => rows31 (blk_below hs hW) j hj
  have hlen : s.list.length = 8 := rfl
  unfold arIdx
  clear hs
  generalize hzs : s.list = zs at *
  clear hzs
  generalize had : (⟨g, 0, none⟩ : Addr) = ad at *
  clear had ltg
  have Hrow := Aside0.mk hrow
  clear hrow
  go_enter Tryd.func34, Tryd.ntmps34
  go_wp2
  go_loopg [5, 8] 8 (fun gg _ s8 wr => ∃ kk : Nat, kk ≤ 8 ∧ 8 - kk ≤ gg ∧ s8 = .int .i64 kk ∧ Aside (Below w.heap.size w wr) ∧ Aside (∀ j, j < kk → isZ zs[j]! = false))
  case atStart => exact ⟨0, Nat.zero_le _, by omega, rfl, Below.refl _ w, fun j hj => absurd hj (Nat.not_lt_zero _)⟩
  case round =>
    obtain ⟨kk, hkk, hgm, rfl, BW, A⟩ := hrel
    by_cases hlt : kk < 8
    · have hltz : (kk : Int) < 8 := by omega
      obtain ⟨l2, l3, l4⟩ := Hrow.out wr BW.out kk (by omega)
      have hcall : Calls Tryd.prog 24 #[.agg #[.string zs[kk]!.f0, .int .u16 zs[kk]!.f1, .int .u32 zs[kk]!.f2]] wr fun e w' => e = .returned (.bool (isZ zs[kk]!)) ∧ Below w.heap.size w w' := hp wr zs[kk]! BW.out
      clear hp Hrow
      generalize hy : zs[kk]! = y at l2 l3 l4 hcall
      have B : Aside (zs[kk]! = y) := hy
      clear hy
      cases hq : isZ y with
      | true =>
        rw [hq] at hcall
        go_wp2_with (go_at_fn 24; refine hcall.mono ?_; rintro e w' ⟨rfl, hb'⟩)
        go_ret
        refine ⟨?_, hb'⟩
        have := Lib.idxBy_hit (fun _ y => isZ y) zs 8 kk z31 hlt (by omega) (by show isZ zs[kk]! = true; rw [B.out]; exact hq) A.out
        rw [← hlen, List.take_length] at this
        rw [this]
        rfl
      | false =>
        rw [hq] at hcall
        go_wp2_with (go_at_fn 24; refine hcall.mono ?_; rintro e w' ⟨rfl, hb'⟩)
        go_roundg (8 - (kk + 1))
        case measure => omega
        case rel =>
          refine ⟨kk + 1, by omega, by omega, by go_num, hb', (show Aside _ from fun j hj => ?_)⟩
          by_cases e : j = kk
          · subst e
            rw [B.out]; exact hq
          · exact A.out j (by omega)
    · have hltz : ¬ (kk : Int) < 8 := by omega
      have : kk = 8 := by omega
      subst this
      go_wp2
      go_ret
      refine ⟨?_, BW.out⟩
      have := Lib.idxBy_miss (fun _ y => isZ y) zs 8 z31 A.out
      rw [← hlen, List.take_length] at this
      rw [this]
      rfl
set_option maxHeartbeats 8000000 in
set_option maxRecDepth 100000 in
theorem gt_free.calls (g : Nat) (s : AR51) (r1 : Int) (r2 : AR51) (w0 w : World) (hI : IsS53 w0 w g s) (hB : Below w0.heap.size w0 w) (h : gt_free.f s = some (r1, r2)) :
    Calls Tryd.prog 23 #[.pointer (some ⟨g, 0, none⟩), .func (.func 24) #[] #[]] w fun e w' => e = .returned (.int .i64 r1) ∧ IsS53 w0 w' g r2 ∧ Below w0.heap.size w0 w' ∧ KeepBut w w' g none := by
  unfold gt_free.f at h
  simp only [Option.some.injEq, Prod.mk.injEq] at h
  obtain ⟨rfl, rfl⟩ := h
  have hc := gt_free.ix g s 53 w hI.1
  have HI := Aside0.mk hI
  have HB := Aside0.mk hB
  clear hI hB
  go_enter Tryd.func23, Tryd.ntmps23
  go_wp2_with (go_at_call 34; refine hc.mono ?_; rintro e w' ⟨rfl, hb⟩)
  go_ret
  exact ⟨rfl, HI.out.below hb, below_step HB.out hb, KeepBut.of_below hb g none⟩
end Go.Proofs.YtlgmboaoemlnpaaDoor.P
