import Derived.Test.YtllkloneapjgjaaLkIdxF
import Derived.Test.YtllkloneapjgjaaPx4
import Derived.Shelf.SlicesQ.IndexFunc
import Derived.Ground.SlgfProg
import Derived.Lib.SliceRun
/- Link: slices.IndexFunc with Word's own closure. -/
namespace Go.Proofs.Ytllkloneapjgjaa.P
open Go.Shelf Go.RowKit Go.Lib Go.Proofs.YtllkloneapjgjaaW.PrintWords Go.Proofs.YtllkloneapjgjaaW.PrintLast Go.Proofs.YtllkloneapjgjaaW.PrintMore
set_option linter.unusedVariables false
end Go.Proofs.Ytllkloneapjgjaa.P
namespace Go.Proofs
open Go.Shelf Go.RowKit Go.Lib
def Try.lkIdx_ren : Go.Shelf.Ren := ⟨fun | 6 => 16 | n => n, fun | 22 => 24 | 23 => 53 | 25 => 59 | 3 => 3 | 0 => 0 | 4 => 4 | n => n, fun | n => n⟩
theorem Try.lkIdx : Go.Proofs.SlLaysH0.n6 Try.prog Try.lkIdx_ren := {
  mixed := by kernel_rfl
  f6 := ⟨Try.f16.name, by decide, Try.func16.trans (congrArg some (by kernel_rfl))⟩
  t0 := Try.underlying0
  a0 := Try.isAgg0
  z0 := Try.sizeOf0
  v0 := Try.zeroValue0
  t3 := Try.underlying3
  a3 := Try.isAgg3
  z3 := Try.sizeOf3
  v3 := Try.zeroValue3
  t4 := Try.underlying4
  a4 := Try.isAgg4
  z4 := Try.sizeOf4
  v4 := Try.zeroValue4
  t22 := Try.underlying24
  a22 := Try.isAgg24
  z22 := Try.sizeOf24
  v22 := Try.zeroValue24
  t25 := Try.underlying59
  a25 := Try.isAgg59
  z25 := Try.sizeOf59
  v25 := Try.zeroValue59 }
end Go.Proofs
namespace Go.Proofs.Ytllkloneapjgjaa.P
open Go.Shelf Go.RowKit Go.Lib Go.Proofs.YtllkloneapjgjaaW.PrintWords Go.Proofs.YtllkloneapjgjaaW.PrintLast Go.Proofs.YtllkloneapjgjaaW.PrintMore
theorem link_data_is (k : Int) : link_data.f k = some (isData k) := by
  unfold link_data.f isData
  by_cases h4 : k = 4
  · simp [h4]
  · by_cases h5 : k = 5
    · simp [h5]
    · simp [h4, h5]
set_option maxHeartbeats 8000000 in
set_option maxRecDepth 100000 in
theorem lk_pred (at_ : Int) (code : Bool) (b0 b1 : Nat) (w : World) (l0 : b0 < w.heap.size) (l1 : b1 < w.heap.size)
    (hr0 : w.cell? ⟨b0, 0, none⟩ = some (.int .i64 at_)) (hr1 : w.cell? ⟨b1, 0, none⟩ = some (.bool code)) :
    PredBelow Try.prog 17 #[.pointer (some ⟨b0, 0, none⟩), .pointer (some ⟨b1, 0, none⟩)] (fun x => .agg (enc53 x).toArray) (lkPred at_ code) w := fun W x hb => by
  have c0 : W.cell? ⟨b0, 0, none⟩ = some (.int .i64 at_) := (hb.cell (p := ⟨b0, 0, none⟩) l0).trans hr0
  have c1 : W.cell? ⟨b1, 0, none⟩ = some (.bool code) := (hb.cell (p := ⟨b1, 0, none⟩) l1).trans hr1
  clear hr0 hr1
  have n0 : b0 ≠ W.heap.size := by have := hb.size; omega
  have n1 : b1 ≠ W.heap.size := by have := hb.size; omega
  show Calls Try.prog 17 #[.agg #[.int .u8 x.f0, .int .u16 x.f1, .int .u16 x.f2], .pointer (some ⟨b0, 0, none⟩), .pointer (some ⟨b1, 0, none⟩)] W _
  unfold lkPred
  generalize x.f0 = f0
  generalize x.f1 = f1
  generalize x.f2 = f2
  have k0 := Lib.cell?_alloc_some (.cells #[.int .u8 f0, .int .u16 f1, .int .u16 f2] 53) c0
  have k1 := Lib.cell?_alloc_some (.cells #[.int .u8 f0, .int .u16 f1, .int .u16 f2] 53) c1
  have fin0 : ∀ n, Below w.heap.size w ((W.alloc (.cells #[.int .u8 f0, .int .u16 f1, .int .u16 f2] 53)).drewN n) := fun n => pw_below_drewN (hb.alloc hb.size _) n
  obtain ⟨D, hD⟩ : ∃ D, isData f0 = D := ⟨_, rfl⟩
  obtain ⟨E, hE⟩ : ∃ E, (D != code) = E := ⟨_, rfl⟩
  have HDAT0 := link_data_is f0
  rw [hD] at HDAT0
  have HDAT := Aside0.mk HDAT0
  have FIN := Aside0.mk fin0
  rw [hD, hE]
  clear HDAT0 fin0 hD c0 c1
  by_cases h1 : wrap64 f1 = at_
  · have h1b : (wrap64 f1 == at_) = true := beq_iff_eq.mpr h1
    have h1c : (IntKind.i64.wrap f1 == at_) = true := by first | exact h1b | (simpa [IntKind.wrap_i64, wrap64] using h1b)
    rw [h1b]
    cases E
    · have hE2 : (D == code) = true := by revert hE; cases D <;> cases code <;> simp
      show Calls _ _ _ _ fun e w' => e = .returned (.bool false) ∧ Below w.heap.size w w'
      go_enter Try.func17, Try.ntmps17
      go_wp2
      go_quiet (first | (go_at_call 18; (with_reducible refine (link_data.calls f0 D _ HDAT.out).mono ?_); rintro e w' ⟨rfl, ⟨nd, rfl⟩⟩; (try first | exact ⟨rfl, _, World.drewN_drewN _ _ _⟩ | exact ⟨rfl, _, Eq.trans (World.drewN_drewN _ _ _) (congrArg (World.drewN _) (Nat.add_assoc _ _ _))⟩)))
      try go_wp2
      go_ret
      exact ⟨by first | rfl | (simp; done) | (simp [*]; done), FIN.out _⟩
    · have hE2 : (D == code) = false := by revert hE; cases D <;> cases code <;> simp
      by_cases h7 : f0 ≤ 7
      · rw [decide_eq_true h7]
        show Calls _ _ _ _ fun e w' => e = .returned (.bool true) ∧ Below w.heap.size w w'
        go_enter Try.func17, Try.ntmps17
        go_wp2
        go_quiet (first | (go_at_call 18; (with_reducible refine (link_data.calls f0 D _ HDAT.out).mono ?_); rintro e w' ⟨rfl, ⟨nd, rfl⟩⟩; (try first | exact ⟨rfl, _, World.drewN_drewN _ _ _⟩ | exact ⟨rfl, _, Eq.trans (World.drewN_drewN _ _ _) (congrArg (World.drewN _) (Nat.add_assoc _ _ _))⟩)))
        try go_wp2
        go_ret
        exact ⟨by first | rfl | (simp; done) | (simp [*]; done), FIN.out _⟩
      · rw [decide_eq_false h7]
        show Calls _ _ _ _ fun e w' => e = .returned (.bool false) ∧ Below w.heap.size w w'
        go_enter Try.func17, Try.ntmps17
        go_wp2
        go_quiet (first | (go_at_call 18; (with_reducible refine (link_data.calls f0 D _ HDAT.out).mono ?_); rintro e w' ⟨rfl, ⟨nd, rfl⟩⟩; (try first | exact ⟨rfl, _, World.drewN_drewN _ _ _⟩ | exact ⟨rfl, _, Eq.trans (World.drewN_drewN _ _ _) (congrArg (World.drewN _) (Nat.add_assoc _ _ _))⟩)))
        try go_wp2
        go_ret
        exact ⟨by first | rfl | (simp; done) | (simp [*]; done), FIN.out _⟩
  · have h1b : (wrap64 f1 == at_) = false := beq_eq_false_iff_ne.mpr h1
    have h1c : (IntKind.i64.wrap f1 == at_) = false := by first | exact h1b | (simpa [IntKind.wrap_i64, wrap64] using h1b)
    rw [h1b]
    show Calls _ _ _ _ fun e w' => e = .returned (.bool false) ∧ Below w.heap.size w w'
    go_enter Try.func17, Try.ntmps17
    go_wp2
    go_quiet (first | (go_at_call 18; (with_reducible refine (link_data.calls f0 D _ HDAT.out).mono ?_); rintro e w' ⟨rfl, ⟨nd, rfl⟩⟩; (try first | exact ⟨rfl, _, World.drewN_drewN _ _ _⟩ | exact ⟨rfl, _, Eq.trans (World.drewN_drewN _ _ _) (congrArg (World.drewN _) (Nat.add_assoc _ _ _))⟩)))
    try go_wp2
    go_ret
    exact ⟨by first | rfl | (simp; done) | (simp [*]; done), FIN.out _⟩

/-! ### slices.IndexFunc with it -/
theorem idx_link_Word_1.calls (A0 : Option Addr) (c0 : Nat) (l0 : List S53) (b0 : Nat) (x0 : Int) (b1 : Nat) (x1 : Bool) (r : Int) (w : World) (hr0 : Kd.C k53 w A0 l0.length l0) (hc0 : l0.length ≤ c0)
    (hb0 : w.heap[b0]? = some (.cells #[.int .i64 x0] 3 (0,0))) (hb1 : w.heap[b1]? = some (.cells #[.bool x1] 4 (0,0))) (h : idx_link_Word_1.f l0 x0 x1 = some r) :
    Calls Try.prog 16 #[.slice A0 l0.length c0, .func (.func 17) #[] #[.pointer (some ⟨b0, 0, none⟩), .pointer (some ⟨b1, 0, none⟩)]] w fun e w' => e = .returned (.int .i64 r) ∧ Below w.heap.size w w' := by
  unfold idx_link_Word_1.f at h
  split at h
  case isFalse => exact absurd h (by simp)
  case isTrue hbig =>
  obtain rfl := Option.some.inj h
  have lt0 : b0 < w.heap.size := (Array.getElem?_eq_some_iff.1 hb0).1
  have lt1 : b1 < w.heap.size := (Array.getElem?_eq_some_iff.1 hb1).1
  have cel : ∀ (b : Nat) (v : Value) (t : Nat), w.heap[b]? = some (.cells #[v] t (0, 0)) → w.cell? ⟨b, 0, none⟩ = some v := fun b v t hb => by simp [World.cell?, hb]
  have hp : PredBelow Try.prog 17 #[.pointer (some ⟨b0, 0, none⟩), .pointer (some ⟨b1, 0, none⟩)] (fun x => .agg (enc53 x).toArray) (lkPred x0 x1) w :=
    lk_pred x0 x1 b0 b1 w lt0 lt1 (cel b0 _ 3 hb0) (cel b1 _ 4 hb1)
  have eg : ∀ args w, (callFunc 17 args).run Try.prog w = .ok (.enter 17 args) w := enters_of Try.func17 (by kernel_rfl) rfl
  have hrow : 0 < l0.length → ∃ ad, A0 = some ad ∧ ∀ (W : World), Below w.heap.size w W → ∀ j, j < l0.length → W.cell? (ad.add (j * 3)) = some (.int .u8 l0[j]!.f0) ∧ W.cell? ⟨(ad.add (j * 3)).block, (ad.add (j * 3)).off + 1, none⟩ = some (.int .u16 l0[j]!.f1) ∧ W.cell? ⟨(ad.add (j * 3)).block, (ad.add (j * 3)).off + 2, none⟩ = some (.int .u16 l0[j]!.f2) := fun h0 => by
    obtain ⟨ad, e, _⟩ := hr0.2.2 h0
    refine ⟨ad, e, fun W hW j hj => ?_⟩
    obtain ⟨ad2, e2, c1, c2, c3⟩ := at_T53 (Kd.C_below hr0 hW) (j : Int) (by omega) (by omega)
    obtain rfl : ad2 = ad := Option.some.inj (e2.symm.trans e)
    have e3 : rd_T53 l0 (j : Int) = l0[j]! := by unfold rd_T53; rw [Int.toNat_natCast, List.getD_eq_getElem?_getD, List.getElem?_eq_getElem hj, getElem!_pos l0 j hj]; rfl
    rw [e3, Int.toNat_natCast] at c1 c2 c3
    exact ⟨c1, c2, c3⟩
  clear hb0 hb1 hr0 cel lt0 lt1
  generalize hzs : l0 = zs at *
  clear hzs
  obtain ⟨n, hn⟩ : ∃ n, zs.length = n := ⟨_, rfl⟩
  rw [hn] at hrow hbig hc0 ⊢
  have Hrow := Aside0.mk hrow
  clear hrow
  go_enter Try.func16, Try.ntmps16
  go_wp2
  go_loopg [5, 8] n (fun gg _ s8 wr => ∃ kk : Nat, kk ≤ n ∧ n - kk ≤ gg ∧ s8 = .int .i64 kk ∧ Aside (Below w.heap.size w wr) ∧ Aside (∀ j, j < kk → lkPred x0 x1 zs[j]! = false))
  case atStart => exact ⟨0, Nat.zero_le _, by omega, rfl, Below.refl _ w, fun j hj => absurd hj (Nat.not_lt_zero _)⟩
  case round =>
    obtain ⟨kk, hkk, hg, rfl, BW, A⟩ := hrel
    by_cases hlt : kk < n
    · obtain ⟨ad, rfl, hrow⟩ := Hrow.out (by omega)
      have hltz : (kk : Int) < (n : Int) := by omega
      obtain ⟨l2, l3, l4⟩ := hrow wr BW.out kk (by omega)
      have hcall : Calls Try.prog 17 #[.agg #[.int .u8 zs[kk]!.f0, .int .u16 zs[kk]!.f1, .int .u16 zs[kk]!.f2], .pointer (some ⟨b0, 0, none⟩), .pointer (some ⟨b1, 0, none⟩)] wr fun e w' => e = .returned (.bool (lkPred x0 x1 zs[kk]!)) ∧ Below w.heap.size w w' := hp wr zs[kk]! BW.out
      clear hrow hp Hrow
      generalize hy : zs[kk]! = y at l2 l3 l4 hcall
      have B : Aside (zs[kk]! = y) := hy
      clear hy
      cases hq : lkPred x0 x1 y with
      | true =>
        rw [hq] at hcall
        go_wp2_with (go_at_fn 17; refine hcall.mono ?_; rintro e w' ⟨rfl, hb'⟩)
        go_ret
        refine ⟨?_, hb'⟩
        have := Lib.idxBy_hit (fun _ y => lkPred x0 x1 y) zs n kk z53 hlt (by omega) (by show lkPred x0 x1 zs[kk]! = true; rw [B.out]; exact hq) A.out
        rw [← hn, List.take_length] at this
        rw [this]
        rfl
      | false =>
        rw [hq] at hcall
        go_wp2_with (go_at_fn 17; refine hcall.mono ?_; rintro e w' ⟨rfl, hb'⟩)
        go_roundg (n - (kk + 1))
        case measure => omega
        case rel =>
          refine ⟨kk + 1, by omega, by omega, by go_num, hb', (show Aside _ from fun j hj => ?_)⟩
          by_cases e : j = kk
          · subst e
            rw [B.out]; exact hq
          · exact A.out j (by omega)
    · have hltz : ¬ (kk : Int) < (n : Int) := by omega
      have : kk = n := by omega
      subst this
      go_wp2
      go_ret
      refine ⟨?_, BW.out⟩
      have := Lib.idxBy_miss (fun _ y => lkPred x0 x1 y) zs kk z53 A.out
      rw [← hn, List.take_length] at this
      rw [this]
      rfl
end Go.Proofs.Ytllkloneapjgjaa.P
