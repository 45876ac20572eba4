import Derived.Test.YtlgmboaoemlnpaaDoorProg
import Derived.Test.YtlgmboaoemlnpaaDoorNmPlain
import Derived.Lib.OthersKept
import Derived.Lib.TrimU
import Derived.Lib.Hide
import Derived.Lib.Strings
import Derived.Deep.LoopGhost
import Derived.WalkKit
import Derived.BigQuiet
import Derived.Deep.QuietTactic
/- Names: the hand-made contracts that lean on nothing of the library: Runes, version. -/
namespace Go.Proofs.YtlgmboaoemlnpaaDoor
open Go.RowKit Go.Lib Go.Proofs.YtlgmboaoemlnpaaDoorW.PrintWords

theorem nm_drewN {B : Nat} {a w : World} (h : Below B a w) (n : Nat) : Below B a (w.drewN n) := h.trans ⟨rfl, rfl, rfl, Nat.le_refl _, fun _ _ => rfl⟩

def name_Runes.f (a0 : ByteArray) : Option Int := some (Nm.runes a0)
set_option maxHeartbeats 2000000 in
set_option maxRecDepth 100000 in
theorem name_Runes.calls (a0 : ByteArray) (r : Int) (w : World) (h : name_Runes.f a0 = some r) :
    Calls Tryd.prog 41 #[.string a0] w fun e w' => e = .returned (.int .i64 r) ∧ Below w.heap.size w w' := by
  obtain rfl := Option.some.inj h
  clear h
  go_enter Tryd.func41, Tryd.ntmps41
  go_wp2
  go_loopg [3] a0.size (fun gf v3 wx => ∃ (pos : Nat) (n : Int), v3 = .int .i64 n ∧ wx.heap[w.heap.size]? = some (.stringIter a0 pos) ∧ Below w.heap.size w wx ∧ Hid (Nm.runesFrom a0 gf pos n = Nm.runes a0) ∧ a0.size ≤ pos + gf)
  case atStart => exact ⟨0, 0, rfl, World.iter_heap w a0 0, (Below.refl _ w).alloc (Nat.le_refl _) _, rfl, by omega⟩
  case round =>
    obtain ⟨pos, n, rfl, hit, hbw, HS, hfu⟩ := hrel
    by_cases hps : pos < a0.size
    · obtain ⟨g', rfl⟩ : ∃ g', gk = g' + 1 := ⟨gk - 1, by omega⟩
      have hnx : ∀ ty, (Instr.next (.pointer (some ⟨w.heap.size, 0, none⟩)) true ty).run Tryd.prog wr = _ := fun ty => Lib.run_next_any_at wr w.heap.size a0 pos ty hit hps
      have hwd := Lib.width_pos a0 pos
      have hleft : Nm.runesFrom a0 g' (pos + (Utf8.decode a0 pos).2) (wrap64 (n + 1)) = Nm.runes a0 := by
        have h1 := HS.out
        simp only [Nm.runesFrom, hps, if_true] at h1
        exact h1
      clear HS
      have HS : Hid (Nm.runesFrom a0 g' (pos + (Utf8.decode a0 pos).2) (wrap64 (n + 1)) = Nm.runes a0) := hleft
      clear hleft
      obtain ⟨R, hR⟩ : ∃ R, (Utf8.decode a0 pos).1 = R := ⟨_, rfl⟩
      obtain ⟨K, hK⟩ : ∃ K, (Utf8.decode a0 pos).2 = K := ⟨_, rfl⟩
      rw [hR, hK] at hnx
      rw [hK] at hwd HS
      have hit2 := Lib.iterAt_heap wr w.heap.size a0 pos (pos + K) hit
      have hbw2 := Lib.below_iterAt hbw (k := w.heap.size) (Nat.le_refl _) a0 (pos + K)
      obtain ⟨W, hWd⟩ : ∃ W, wr.iterAt w.heap.size a0 (pos + K) = W := ⟨_, rfl⟩
      rw [hWd] at hnx hit2 hbw2
      clear hWd hR hK hit hbw
      go_wp2
      go_roundg g'
      case measure => omega
      case rel => exact ⟨pos + K, _, rfl, hit2, hbw2, HS, by omega⟩
    · have hnx : ∀ ty, (Instr.next (.pointer (some ⟨w.heap.size, 0, none⟩)) true ty).run Tryd.prog wr = _ := fun ty => Lib.run_next_end_at wr w.heap.size a0 pos ty hit hps
      have hleft := HS.out
      rw [Nm.runesFrom_end a0 gk pos n hps] at hleft
      clear HS
      have HS : Hid (n = Nm.runes a0) := hleft
      clear hleft
      go_wp2
      go_ret
      exact ⟨by rw [← HS.out]; rfl, hbw⟩

theorem nm_isEmpty (a0 : ByteArray) : a0.toList.isEmpty = decide (a0.size = 0) := by
  rw [Lib.toList_data]
  cases a0 with
  | mk d => cases d with
    | mk l => cases l <;> simp [ByteArray.size]
theorem nm_get! (a0 : ByteArray) (hz : 0 < a0.size) : a0.get! 0 = a0[0]'hz := by
  show a0.data[0]! = a0.data[0]
  rw [getElem!_pos a0.data 0 hz]

def name_version.f (a0 : ByteArray) : Option Int := some (Nm.ver a0)
set_option maxHeartbeats 2000000 in
set_option maxRecDepth 100000 in
theorem name_version.loop (a0 : ByteArray) (w : World) (r : Int) (hz : 0 < a0.size) (h2 : ¬ 3 < a0.size) (h3 : ((a0[0]'hz).toNat : Int) ≠ 48) (hr : Nm.verFrom a0 a0.size 0 0 = r) :
    Calls Tryd.prog 39 #[.string a0] w fun e w' => e = .returned (.int .i64 r) ∧ Below w.heap.size w w' := by
  have HS0 : Hid (Nm.verFrom a0 a0.size 0 0 = r) := hr
  clear hr
  have e1 : a0.toList.isEmpty = false := by rw [nm_isEmpty]; exact decide_eq_false (by omega)
  have e2 : decide (3 < (a0.size : Int)) = false := decide_eq_false (by omega)
  have e3 : (((a0[0]'hz).toNat : Int) == 48) = false := beq_eq_false_iff_ne.mpr h3
  have p0 : (0 : Int) < (a0.size : Int) := by omega
  clear h2 h3
  go_enter Tryd.func39, Tryd.ntmps39
  go_wp2
  go_loopg [3] a0.size (fun gf v3 wx => ∃ (pos : Nat) (n : Int), v3 = .int .i64 n ∧ wx.heap[w.heap.size]? = some (.stringIter a0 pos) ∧ Below w.heap.size w wx ∧ Hid (Nm.verFrom a0 gf pos n = r) ∧ a0.size ≤ pos + gf)
  case atStart => exact ⟨0, 0, rfl, World.iter_heap w a0 0, (Below.refl _ w).alloc (Nat.le_refl _) _, HS0, by omega⟩
  case round =>
    clear HS0 e1 e2 e3 p0
    obtain ⟨pos, n, rfl, hit, hbw, HS, hfu⟩ := hrel
    by_cases hps : pos < a0.size
    · obtain ⟨g', rfl⟩ : ∃ g', gk = g' + 1 := ⟨gk - 1, by omega⟩
      have hnx : ∀ ty, (Instr.next (.pointer (some ⟨w.heap.size, 0, none⟩)) true ty).run Tryd.prog wr = _ := fun ty => Lib.run_next_any_at wr w.heap.size a0 pos ty hit hps
      have hwd := Lib.width_pos a0 pos
      have hleft := HS.out
      simp only [Nm.verFrom, hps, if_true] at hleft
      clear HS
      obtain ⟨R, hR⟩ : ∃ R, (Utf8.decode a0 pos).1 = R := ⟨_, rfl⟩
      obtain ⟨K, hK⟩ : ∃ K, (Utf8.decode a0 pos).2 = K := ⟨_, rfl⟩
      rw [hR, hK] at hnx hleft
      rw [hK] at hwd
      have hit2 := Lib.iterAt_heap wr w.heap.size a0 pos (pos + K) hit
      have hbw2 := Lib.below_iterAt hbw (k := w.heap.size) (Nat.le_refl _) a0 (pos + K)
      obtain ⟨W, hWd⟩ : ∃ W, wr.iterAt w.heap.size a0 (pos + K) = W := ⟨_, rfl⟩
      rw [hWd] at hnx hit2 hbw2
      clear hWd hR hK hit hbw
      by_cases hlo : (R : Int) < 48
      · have b1 : decide ((R : Int) < 48) = true := decide_eq_true hlo
        rw [if_pos (.inl hlo)] at hleft
        have HS := Lib.hid hleft
        clear hleft hlo
        go_wp2
        go_ret
        exact ⟨by rw [← HS.out]; rfl, hbw2⟩
      · have b1 : decide ((R : Int) < 48) = false := decide_eq_false hlo
        by_cases hhi : 57 < (R : Int)
        · have b2 : decide (57 < (R : Int)) = true := decide_eq_true hhi
          rw [if_pos (.inr hhi)] at hleft
          have HS := Lib.hid hleft
          clear hleft hlo hhi
          go_wp2
          go_ret
          exact ⟨by rw [← HS.out]; rfl, hbw2⟩
        · have b2 : decide (57 < (R : Int)) = false := decide_eq_false hhi
          rw [if_neg (by omega)] at hleft
          have HS := Lib.hid hleft
          clear hleft
          go_wp2
          go_roundg g'
          case measure => omega
          case rel => exact ⟨pos + K, _, rfl, hit2, hbw2, HS, by omega⟩
    · have hnx : ∀ ty, (Instr.next (.pointer (some ⟨w.heap.size, 0, none⟩)) true ty).run Tryd.prog wr = _ := fun ty => Lib.run_next_end_at wr w.heap.size a0 pos ty hit hps
      have hleft := HS.out
      rw [Nm.verFrom_end a0 gk pos n hps] at hleft
      clear HS
      have HS := Lib.hid hleft
      clear hleft
      go_wp2
      go_ret
      exact ⟨by rw [← HS.out]; rfl, hbw⟩
set_option maxHeartbeats 2000000 in
theorem name_version.none (a0 : ByteArray) (w : World) (h : a0.size = 0 ∨ 3 < a0.size ∨ ∃ hz : 0 < a0.size, ((a0[0]'hz).toNat : Int) = 48) :
    Calls Tryd.prog 39 #[.string a0] w fun e w' => e = .returned (.int .i64 0) ∧ Below w.heap.size w w' := by
  rcases h with h | h | ⟨hz, h⟩
  · have e1 : a0.toList.isEmpty = true := by rw [nm_isEmpty]; exact decide_eq_true h
    clear h
    go_enter Tryd.func39, Tryd.ntmps39
    go_wp2
    go_ret
    exact ⟨rfl, Below.refl _ _⟩
  · have e1 : a0.toList.isEmpty = false := by rw [nm_isEmpty]; exact decide_eq_false (by omega)
    have e2 : decide (3 < (a0.size : Int)) = true := decide_eq_true (by omega)
    clear h
    go_enter Tryd.func39, Tryd.ntmps39
    go_wp2
    go_ret
    exact ⟨rfl, Below.refl _ _⟩
  · by_cases h2 : 3 < a0.size
    · have e1 : a0.toList.isEmpty = false := by rw [nm_isEmpty]; exact decide_eq_false (by omega)
      have e2 : decide (3 < (a0.size : Int)) = true := decide_eq_true (by omega)
      clear h h2
      go_enter Tryd.func39, Tryd.ntmps39
      go_wp2
      go_ret
      exact ⟨rfl, Below.refl _ _⟩
    · have e1 : a0.toList.isEmpty = false := by rw [nm_isEmpty]; exact decide_eq_false (by omega)
      have e2 : decide (3 < (a0.size : Int)) = false := decide_eq_false (by omega)
      have e3 : (((a0[0]'hz).toNat : Int) == 48) = true := beq_iff_eq.mpr h
      have p0 : (0 : Int) < (a0.size : Int) := by omega
      clear h h2
      go_enter Tryd.func39, Tryd.ntmps39
      go_wp2
      go_ret
      exact ⟨rfl, Below.refl _ _⟩
theorem name_version.calls (a0 : ByteArray) (r : Int) (w : World) (h : name_version.f a0 = some r) :
    Calls Tryd.prog 39 #[.string a0] w fun e w' => e = .returned (.int .i64 r) ∧ Below w.heap.size w w' := by
  obtain rfl := Option.some.inj h
  clear h
  unfold Nm.ver
  split
  · rename_i h
    refine name_version.none a0 w ?_
    rcases h with h | h | h
    · exact .inl h
    · exact .inr (.inl h)
    · by_cases hz : 0 < a0.size
      · refine .inr (.inr ⟨hz, ?_⟩)
        rw [nm_get! a0 hz] at h
        omega
      · exact .inl (by omega)
  · rename_i h
    have hz : 0 < a0.size := by omega
    rw [nm_get! a0 hz] at h
    exact name_version.loop a0 w _ hz (by omega) (by omega) rfl

end Go.Proofs.YtlgmboaoemlnpaaDoor
