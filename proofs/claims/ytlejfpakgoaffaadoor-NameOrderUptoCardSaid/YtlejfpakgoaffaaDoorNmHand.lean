import Derived.Test.YtlejfpakgoaffaaDoorProg
import Derived.Test.YtlejfpakgoaffaaDoorNmPlain
import Derived.Lib.OthersKept
import Derived.Lib.TrimU
import Derived.Lib.Hide
import Derived.Lib.Strings
import Derived.Deep.LoopGhost
import Derived.WalkKit
import Derived.BigQuiet
import Derived.Deep.QuietTactic
/- Names: the hand-made contracts that lean on nothing of the library: Runes, version. -/
namespace Go.Proofs.YtlejfpakgoaffaaDoor
open Go.RowKit Go.Lib Go.Proofs.YtlejfpakgoaffaaDoorW.PrintWords

theorem nm_drewN {B : Nat} {a w : World} (h : Below B a w) (n : Nat) : Below B a (w.drewN n) := h.trans ⟨rfl, rfl, rfl, Nat.le_refl _, fun _ _ => rfl⟩

def name_Runes.f (a0 : ByteArray) : Option Int := some (Nm.runes a0)
set_option maxHeartbeats 2000000 in
set_option maxRecDepth 100000 in
theorem name_Runes.calls (a0 : ByteArray) (r : Int) (w : World) (h : name_Runes.f a0 = some r) :
    Calls Tryd.prog 13 #[.string a0] w fun e w' => e = .returned (.int .i64 r) ∧ Below w.heap.size w w' := by
  obtain rfl := Option.some.inj h
  clear h
  go_enter Tryd.func13, Tryd.ntmps13
  go_wp2
  go_loopg [3] a0.size (fun gf v3 wx => ∃ (pos : Nat) (n : Int), v3 = .int .i64 n ∧ wx.heap[w.heap.size]? = some (.stringIter a0 pos) ∧ Below w.heap.size w wx ∧ Hid (Nm.runesFrom a0 gf pos n = Nm.runes a0) ∧ a0.size ≤ pos + gf)
  case atStart => exact ⟨0, 0, rfl, World.iter_heap w a0 0, (Below.refl _ w).alloc (Nat.le_refl _) _, rfl, by omega⟩
  case round =>
    obtain ⟨pos, n, rfl, hit, hbw, HS, hfu⟩ := hrel
    by_cases hps : pos < a0.size
    · obtain ⟨g', rfl⟩ : ∃ g', gk = g' + 1 := ⟨gk - 1, by omega⟩
      have hnx : ∀ ty, (Instr.next (.pointer (some ⟨w.heap.size, 0, none⟩)) true ty).run Tryd.prog wr = _ := fun ty => Lib.run_next_any_at wr w.heap.size a0 pos ty hit hps
      have hwd := Lib.width_pos a0 pos
      have hleft : Nm.runesFrom a0 g' (pos + (Utf8.decode a0 pos).2) (wrap64 (n + 1)) = Nm.runes a0 := by
        have h1 := HS.out
        simp only [Nm.runesFrom, hps, if_true] at h1
        exact h1
      clear HS
      have HS : Hid (Nm.runesFrom a0 g' (pos + (Utf8.decode a0 pos).2) (wrap64 (n + 1)) = Nm.runes a0) := hleft
      clear hleft
      obtain ⟨R, hR⟩ : ∃ R, (Utf8.decode a0 pos).1 = R := ⟨_, rfl⟩
      obtain ⟨K, hK⟩ : ∃ K, (Utf8.decode a0 pos).2 = K := ⟨_, rfl⟩
      rw [hR, hK] at hnx
      rw [hK] at hwd HS
      have hit2 := Lib.iterAt_heap wr w.heap.size a0 pos (pos + K) hit
      have hbw2 := Lib.below_iterAt hbw (k := w.heap.size) (Nat.le_refl _) a0 (pos + K)
      obtain ⟨W, hWd⟩ : ∃ W, wr.iterAt w.heap.size a0 (pos + K) = W := ⟨_, rfl⟩
      rw [hWd] at hnx hit2 hbw2
      clear hWd hR hK hit hbw
      go_wp2
      go_roundg g'
      case measure => omega
      case rel => exact ⟨pos + K, _, rfl, hit2, hbw2, HS, by omega⟩
    · have hnx : ∀ ty, (Instr.next (.pointer (some ⟨w.heap.size, 0, none⟩)) true ty).run Tryd.prog wr = _ := fun ty => Lib.run_next_end_at wr w.heap.size a0 pos ty hit hps
      have hleft := HS.out
      rw [Nm.runesFrom_end a0 gk pos n hps] at hleft
      clear HS
      have HS : Hid (n = Nm.runes a0) := hleft
      clear hleft
      go_wp2
      go_ret
      exact ⟨by rw [← HS.out]; rfl, hbw⟩

theorem nm_isEmpty (a0 : ByteArray) : a0.toList.isEmpty = decide (a0.size = 0) := by
  rw [Lib.toList_data]
  cases a0 with
  | mk d => cases d with
    | mk l => cases l <;> simp [ByteArray.size]
theorem nm_get! (a0 : ByteArray) (hz : 0 < a0.size) : a0.get! 0 = a0[0]'hz := by
  show a0.data[0]! = a0.data[0]
  rw [getElem!_pos a0.data 0 hz]

def name_version.f (a0 : ByteArray) : Option Int := some (Nm.ver a0)
set_option maxHeartbeats 2000000 in
set_option maxRecDepth 100000 in
theorem name_version.loop (a0 : ByteArray) (w : World) (r : Int) (hz : 0 < a0.size) (h2 : ¬ 3 < a0.size) (h3 : ((a0[0]'hz).toNat : Int) ≠ 48) (hr : Nm.verFrom a0 a0.size 0 0 = r) :
    Calls Tryd.prog 29 #[.string a0] w fun e w' => e = .returned (.int .i64 r) ∧ Below w.heap.size w w' := by
  have HS0 : Hid (Nm.verFrom a0 a0.size 0 0 = r) := hr
  clear hr
  have e1 : a0.toList.isEmpty = false := by rw [nm_isEmpty]; exact decide_eq_false (by omega)
  have e2 : decide (3 < (a0.size : Int)) = false := decide_eq_false (by omega)
  have e3 : (((a0[0]'hz).toNat : Int) == 48) = false := beq_eq_false_iff_ne.mpr h3
  have p0 : (0 : Int) < (a0.size : Int) := by omega
  clear h2 h3
  go_enter Tryd.func29, Tryd.ntmps29
  go_wp2
  go_loopg [3] a0.size (fun gf v3 wx => ∃ (pos : Nat) (n : Int), v3 = .int .i64 n ∧ wx.heap[w.heap.size]? = some (.stringIter a0 pos) ∧ Below w.heap.size w wx ∧ Hid (Nm.verFrom a0 gf pos n = r) ∧ a0.size ≤ pos + gf)
  case atStart => exact ⟨0, 0, rfl, World.iter_heap w a0 0, (Below.refl _ w).alloc (Nat.le_refl _) _, HS0, by omega⟩
  case round =>
    clear HS0 e1 e2 e3 p0
    obtain ⟨pos, n, rfl, hit, hbw, HS, hfu⟩ := hrel
    by_cases hps : pos < a0.size
    · obtain ⟨g', rfl⟩ : ∃ g', gk = g' + 1 := ⟨gk - 1, by omega⟩
      have hnx : ∀ ty, (Instr.next (.pointer (some ⟨w.heap.size, 0, none⟩)) true ty).run Tryd.prog wr = _ := fun ty => Lib.run_next_any_at wr w.heap.size a0 pos ty hit hps
      have hwd := Lib.width_pos a0 pos
      have hleft := HS.out
      simp only [Nm.verFrom, hps, if_true] at hleft
      clear HS
      obtain ⟨R, hR⟩ : ∃ R, (Utf8.decode a0 pos).1 = R := ⟨_, rfl⟩
      obtain ⟨K, hK⟩ : ∃ K, (Utf8.decode a0 pos).2 = K := ⟨_, rfl⟩
      rw [hR, hK] at hnx hleft
      rw [hK] at hwd
      have hit2 := Lib.iterAt_heap wr w.heap.size a0 pos (pos + K) hit
      have hbw2 := Lib.below_iterAt hbw (k := w.heap.size) (Nat.le_refl _) a0 (pos + K)
      obtain ⟨W, hWd⟩ : ∃ W, wr.iterAt w.heap.size a0 (pos + K) = W := ⟨_, rfl⟩
      rw [hWd] at hnx hit2 hbw2
      clear hWd hR hK hit hbw
      by_cases hlo : (R : Int) < 48
      · have b1 : decide ((R : Int) < 48) = true := decide_eq_true hlo
        rw [if_pos (.inl hlo)] at hleft
        have HS := Lib.hid hleft
        clear hleft hlo
        go_wp2
        go_ret
        exact ⟨by rw [← HS.out]; rfl, hbw2⟩
      · have b1 : decide ((R : Int) < 48) = false := decide_eq_false hlo
        by_cases hhi : 57 < (R : Int)
        · have b2 : decide (57 < (R : Int)) = true := decide_eq_true hhi
          rw [if_pos (.inr hhi)] at hleft
          have HS := Lib.hid hleft
          clear hleft hlo hhi
          go_wp2
          go_ret
          exact ⟨by rw [← HS.out]; rfl, hbw2⟩
        · have b2 : decide (57 < (R : Int)) = false := decide_eq_false hhi
          rw [if_neg (by omega)] at hleft
          have HS := Lib.hid hleft
          clear hleft
          go_wp2
          go_roundg g'
          case measure => omega
          case rel => exact ⟨pos + K, _, rfl, hit2, hbw2, HS, by omega⟩
    · have hnx : ∀ ty, (Instr.next (.pointer (some ⟨w.heap.size, 0, none⟩)) true ty).run Tryd.prog wr = _ := fun ty => Lib.run_next_end_at wr w.heap.size a0 pos ty hit hps
      have hleft := HS.out
      rw [Nm.verFrom_end a0 gk pos n hps] at hleft
      clear HS
      have HS := Lib.hid hleft
      clear hleft
      go_wp2
      go_ret
      exact ⟨by rw [← HS.out]; rfl, hbw⟩
set_option maxHeartbeats 2000000 in
theorem name_version.none (a0 : ByteArray) (w : World) (h : a0.size = 0 ∨ 3 < a0.size ∨ ∃ hz : 0 < a0.size, ((a0[0]'hz).toNat : Int) = 48) :
    Calls Tryd.prog 29 #[.string a0] w fun e w' => e = .returned (.int .i64 0) ∧ Below w.heap.size w w' := by
  rcases h with h | h | ⟨hz, h⟩
  · have e1 : a0.toList.isEmpty = true := by rw [nm_isEmpty]; exact decide_eq_true h
    clear h
    go_enter Tryd.func29, Tryd.ntmps29
    go_wp2
    go_ret
    exact ⟨rfl, Below.refl _ _⟩
  · have e1 : a0.toList.isEmpty = false := by rw [nm_isEmpty]; exact decide_eq_false (by omega)
    have e2 : decide (3 < (a0.size : Int)) = true := decide_eq_true (by omega)
    clear h
    go_enter Tryd.func29, Tryd.ntmps29
    go_wp2
    go_ret
    exact ⟨rfl, Below.refl _ _⟩
  · by_cases h2 : 3 < a0.size
    · have e1 : a0.toList.isEmpty = false := by rw [nm_isEmpty]; exact decide_eq_false (by omega)
      have e2 : decide (3 < (a0.size : Int)) = true := decide_eq_true (by omega)
      clear h h2
      go_enter Tryd.func29, Tryd.ntmps29
      go_wp2
      go_ret
      exact ⟨rfl, Below.refl _ _⟩
    · have e1 : a0.toList.isEmpty = false := by rw [nm_isEmpty]; exact decide_eq_false (by omega)
      have e2 : decide (3 < (a0.size : Int)) = false := decide_eq_false (by omega)
      have e3 : (((a0[0]'hz).toNat : Int) == 48) = true := beq_iff_eq.mpr h
      have p0 : (0 : Int) < (a0.size : Int) := by omega
      clear h h2
      go_enter Tryd.func29, Tryd.ntmps29
      go_wp2
      go_ret
      exact ⟨rfl, Below.refl _ _⟩
theorem name_version.calls (a0 : ByteArray) (r : Int) (w : World) (h : name_version.f a0 = some r) :
    Calls Tryd.prog 29 #[.string a0] w fun e w' => e = .returned (.int .i64 r) ∧ Below w.heap.size w w' := by
  obtain rfl := Option.some.inj h
  clear h
  unfold Nm.ver
  split
  · rename_i h
    refine name_version.none a0 w ?_
    rcases h with h | h | h
    · exact .inl h
    · exact .inr (.inl h)
    · by_cases hz : 0 < a0.size
      · refine .inr (.inr ⟨hz, ?_⟩)
        rw [nm_get! a0 hz] at h
        omega
      · exact .inl (by omega)
  · rename_i h
    have hz : 0 < a0.size := by omega
    rw [nm_get! a0 hz] at h
    exact name_version.loop a0 w _ hz (by omega) (by omega) rfl

def name_Fold.f (a0 : ByteArray) : Option ByteArray := if a0.size ≤ 140737488351232 then some (Nm.fold a0) else none
theorem nm_fold_cell (s : ByteArray) (j : Nat) (h : j < s.size) : (bytesOf s).getD j 0 = (s.data.toList.getD j 0).toNat := by
  have h' : j < s.data.toList.length := by rw [data_length]; exact h
  simp [bytesOf, List.getD_eq_getElem?_getD, List.getElem?_eq_getElem h']
set_option maxHeartbeats 2000000 in
set_option maxRecDepth 100000 in
theorem name_Fold.calls (a0 : ByteArray) (r : ByteArray) (w : World) (h : name_Fold.f a0 = some r) :
    Calls Tryd.prog 19 #[.string a0] w fun e w' => e = .returned (.string r) ∧ Below w.heap.size w w' := by
  unfold name_Fold.f at h
  split at h
  case isFalse => cases h
  rename_i hsz
  obtain rfl := Option.some.inj h
  clear h
  have hb0 := bytes_below (Below.refl w.heap.size w) (Nat.le_refl _) 5 a0
  have hc0 : ∀ j, j < a0.size → (Lib.bytesWorld w 5 a0).cell? ⟨w.heap.size, j, none⟩ = some (.int .u8 ((bytesOf a0).getD j 0)) := fun j hj => by
    rw [nm_fold_cell a0 j hj]; exact Lib.bytesWorld_cell w 5 a0 j hj
  have hf0 : ∀ j, j < a0.size → (Lib.bytesWorld w 5 a0).frozen? ⟨w.heap.size, j, none⟩ = false := fun j hj => by
    have hz : (Lib.bytesCells w 5 a0).size = a0.data.size + (grownCap w a0.size 0 5 - a0.size) := by simp [Lib.bytesCells]
    have h2 : a0.data.size = a0.size := rfl
    simp only [World.frozen?, Lib.bytesWorld_at_new]
    simp
    omega
  have X0 := Lib.hid (And.intro hb0 (And.intro hc0 hf0))
  clear hb0 hc0 hf0
  have kb := fun W => print_bytes (P := Tryd.prog) 9 47 5 Tryd.underlying9 Tryd.underlying47 Tryd.underlying5 a0 W
  go_enter Tryd.func19, Tryd.ntmps19
  go_wp2
  go_loopg [4, 5, 10] a0.size (fun gf v4 v5 v10 wx => ∃ (k : Nat), v10 = .int .i64 k ∧ k + gf = a0.size ∧
      Hid (Below w.heap.size w wx ∧ (∀ j, j < a0.size → wx.cell? ⟨w.heap.size, j, none⟩ = some (.int .u8 (if j < k then Nm.foldI ((bytesOf a0).getD j 0) else (bytesOf a0).getD j 0))) ∧ ∀ j, j < a0.size → wx.frozen? ⟨w.heap.size, j, none⟩ = false))
  case atStart => exact ⟨0, rfl, by omega, ⟨X0.out.1, fun j hj => by rw [if_neg (by omega)]; exact X0.out.2.1 j hj, X0.out.2.2⟩⟩
  case round =>
    clear X0 kb
    obtain ⟨k, rfl, hk, HX⟩ := hrel
    by_cases hlt : k < a0.size
    · obtain ⟨g', rfl⟩ : ∃ g', gk = g' + 1 := ⟨gk - 1, by omega⟩
      obtain ⟨c, hc⟩ : ∃ c, (bytesOf a0).getD k 0 = c := ⟨_, rfl⟩
      have hcell : wr.cell? ⟨w.heap.size, k, none⟩ = some (.int .u8 c) := by rw [HX.out.2.1 k hlt, if_neg (by omega), hc]
      have hfz : wr.frozen? ⟨w.heap.size, k, none⟩ = false := HX.out.2.2 k hlt
      have d1 : decide ((k : Int) < (a0.size : Int)) = true := decide_eq_true (by omega)
      have d2 : decide (k < a0.size) = true := decide_eq_true hlt
      have Hc := Lib.hid hc
      clear hc
      have hkle : k ≤ 140737488351232 := by omega
      by_cases h1 : 65 ≤ c
      · have b1 : decide (65 ≤ c) = true := decide_eq_true h1
        by_cases h2 : c ≤ 90
        · have b2 : decide (c ≤ 90) = true := decide_eq_true h2
          have hX2 : Hid (Below w.heap.size w (wr.setCell ⟨w.heap.size, k, none⟩ (.int .u8 (Go.bits .or .u8 c 32))) ∧ (∀ j, j < a0.size → (wr.setCell ⟨w.heap.size, k, none⟩ (.int .u8 (Go.bits .or .u8 c 32))).cell? ⟨w.heap.size, j, none⟩ = some (.int .u8 (if j < k + 1 then Nm.foldI ((bytesOf a0).getD j 0) else (bytesOf a0).getD j 0))) ∧ ∀ j, j < a0.size → (wr.setCell ⟨w.heap.size, k, none⟩ (.int .u8 (Go.bits .or .u8 c 32))).frozen? ⟨w.heap.size, j, none⟩ = false) := by
            refine ⟨HX.out.1.setCell (Nat.le_refl _) _, fun j hj => ?_, fun j hj => by rw [World.frozen?_setCell]; exact HX.out.2.2 j hj⟩
            by_cases hjk : j = k
            · subst hjk
              rw [World.cell?_setCell_same (h := hcell), if_pos (by omega), Hc.out, Nm.foldI, if_pos ⟨h1, h2⟩]
            · rw [World.cell?_setCell_other (h := by intro e; injection e with _ e; exact hjk e.symm), HX.out.2.1 j hj]
              by_cases hjk2 : j < k
              · rw [if_pos hjk2, if_pos (by omega)]
              · rw [if_neg hjk2, if_neg (by omega)]
          clear HX
          go_wp2
          go_roundg g'
          case measure => omega
          case rel => exact ⟨k + 1, by go_num, by omega, hX2⟩
        · have b2 : decide (c ≤ 90) = false := decide_eq_false h2
          have hX2 : Hid (Below w.heap.size w wr ∧ (∀ j, j < a0.size → wr.cell? ⟨w.heap.size, j, none⟩ = some (.int .u8 (if j < k + 1 then Nm.foldI ((bytesOf a0).getD j 0) else (bytesOf a0).getD j 0))) ∧ ∀ j, j < a0.size → wr.frozen? ⟨w.heap.size, j, none⟩ = false) := by
            refine ⟨HX.out.1, fun j hj => ?_, HX.out.2.2⟩
            rw [HX.out.2.1 j hj]
            by_cases hjk : j = k
            · subst hjk
              rw [if_neg (by omega), if_pos (by omega), Hc.out, Nm.foldI, if_neg (by omega)]
            · by_cases hjk2 : j < k
              · rw [if_pos hjk2, if_pos (by omega)]
              · rw [if_neg hjk2, if_neg (by omega)]
          clear HX
          go_wp2
          go_roundg g'
          case measure => omega
          case rel => exact ⟨k + 1, by go_num, by omega, hX2⟩
      · have b1 : decide (65 ≤ c) = false := decide_eq_false h1
        have hX2 : Hid (Below w.heap.size w wr ∧ (∀ j, j < a0.size → wr.cell? ⟨w.heap.size, j, none⟩ = some (.int .u8 (if j < k + 1 then Nm.foldI ((bytesOf a0).getD j 0) else (bytesOf a0).getD j 0))) ∧ ∀ j, j < a0.size → wr.frozen? ⟨w.heap.size, j, none⟩ = false) := by
          refine ⟨HX.out.1, fun j hj => ?_, HX.out.2.2⟩
          rw [HX.out.2.1 j hj]
          by_cases hjk : j = k
          · subst hjk
            rw [if_neg (by omega), if_pos (by omega), Hc.out, Nm.foldI, if_neg (by omega)]
          · by_cases hjk2 : j < k
            · rw [if_pos hjk2, if_pos (by omega)]
            · rw [if_neg hjk2, if_neg (by omega)]
        clear HX
        go_wp2
        go_roundg g'
        case measure => omega
        case rel => exact ⟨k + 1, by go_num, by omega, hX2⟩
    · have hl : ((bytesOf a0).map Nm.foldI).length = a0.size := by rw [List.length_map, bytesOf_length]
      have hgd : ∀ i, i < a0.size → ((bytesOf a0).map Nm.foldI).getD i 0 = Nm.foldI ((bytesOf a0).getD i 0) := fun i hi => by
        have h' : i < (bytesOf a0).length := by rw [bytesOf_length]; exact hi
        simp [List.getD_eq_getElem?_getD, List.getElem?_eq_getElem h']
      have kc := fun cap => run_convert_bytes_arg (P := Tryd.prog) wr 47 5 Tryd.underlying47 Tryd.underlying5 w.heap.size 0 a0.size cap ((bytesOf a0).map Nm.foldI) hl (fun i hi => by
        rw [Nat.zero_add, HX.out.2.1 i hi, if_pos (by omega), hgd i hi]) 9 Tryd.underlying9
      have d1 : decide ((k : Int) < (a0.size : Int)) = false := decide_eq_false (by omega)
      have d2 : decide (k < a0.size) = false := decide_eq_false (by omega)
      clear hgd hl hk
      obtain ⟨R, hR⟩ : ∃ R, strOfNums ((bytesOf a0).map Nm.foldI) = R := ⟨_, rfl⟩
      have HR : Hid (Nm.fold a0 = R) := hR
      rw [hR] at kc
      clear hR
      go_wp2
      go_ret
      exact ⟨by rw [HR.out]; rfl, HX.out.1⟩
end Go.Proofs.YtlejfpakgoaffaaDoor
