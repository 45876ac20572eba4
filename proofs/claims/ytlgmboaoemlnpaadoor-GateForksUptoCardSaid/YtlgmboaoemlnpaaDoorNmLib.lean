import Derived.Test.YtlgmboaoemlnpaaDoorShelf
import Derived.Test.YtlgmboaoemlnpaaDoorNmHand
import Derived.Lib.LaidU8
import Derived.WalkSmall
/- Names: what the package-level variables hold (Glob), and the hand-made contracts that read them. -/
namespace Go.Proofs.YtlgmboaoemlnpaaDoor
open Go.RowKit Go.Lib Go.Proofs.YtlgmboaoemlnpaaDoorW.PrintWords

/-- What the library's variables hold: bytealg.MaxLen some number, utf8's two tables what their initialisers lay. -/
structure Glob (w : World) : Prop where
  m : ∃ m, w.cell? ⟨0, 0, none⟩ = some (.int .i64 m)
  u : Lib.Utf8Tabs 1 2 w
theorem cell_lt {w : World} {a : Addr} {v : Value} (hc : w.cell? a = some v) : a.block < w.heap.size := by
  rcases Nat.lt_or_ge a.block w.heap.size with h | h
  · exact h
  · simp [World.cell?, Array.getElem?_eq_none h] at hc
theorem Glob.below {w w' : World} (h : Glob w) (hb : Below w.heap.size w w') : Glob w' :=
  ⟨by obtain ⟨m, hm⟩ := h.m; exact ⟨m, (hb.cell (cell_lt hm)).trans hm⟩, Utf8Tabs_below h.u hb⟩

def strings_Cut.f (a0 a1 : ByteArray) : Option (ByteArray × ByteArray × Bool) :=
  if a0.size < 4294967281 then some (⟨(Lib.cut a0.data.toList a1.data.toList).1.toArray⟩, ⟨(Lib.cut a0.data.toList a1.data.toList).2.1.toArray⟩, (Lib.cut a0.data.toList a1.data.toList).2.2) else none
theorem strings_Cut.calls (a0 a1 : ByteArray) (r1 r2 : ByteArray) (r3 : Bool) (w : World) (h : strings_Cut.f a0 a1 = some (r1, r2, r3)) (hG_ : Glob w) :
    Calls Tryd.prog 38 #[.string a0, .string a1] w fun e w' => e = .returned (.tuple #[.string r1, .string r2, .bool r3]) ∧ Below w.heap.size w w' := by
  unfold strings_Cut.f at h
  split at h
  case isFalse => cases h
  rename_i hs
  simp only [Option.some.injEq, Prod.mk.injEq] at h
  obtain ⟨rfl, rfl, rfl⟩ := h
  obtain ⟨m, hm⟩ := hG_.m
  refine (Tryd.strings_Cut a0 a1 m w hs hm).mono ?_
  rintro e w' ⟨rfl, n, rfl⟩
  exact ⟨rfl, nm_drewN (Below.refl _ _) n⟩

def strings_Contains.f (a0 a1 : ByteArray) : Option Bool :=
  if a0.size < 4294967281 then some (Lib.contains a0.data.toList a1.data.toList) else none


def name_letter.f (a0 : Int) (a1 : Bool) : Option Bool := some (Nm.letter a0 a1)
set_option maxHeartbeats 2000000 in
theorem name_letter.calls (a0 : Int) (a1 : Bool) (r : Bool) (w : World) (h : name_letter.f a0 a1 = some r) :
    Calls Tryd.prog 48 #[.int .i32 a0, .bool a1] w fun e w' => e = .returned (.bool r) ∧ Drawn0 w w' := by
  obtain rfl := Option.some.inj h
  clear h
  unfold Nm.letter
  by_cases h1 : 97 ≤ a0 <;> by_cases h2 : a0 ≤ 122 <;> by_cases h3 : 65 ≤ a0 <;> by_cases h4 : a0 ≤ 90 <;> by_cases h5 : 128 ≤ a0
  all_goals first
    | (exfalso; omega)
    | (simp only [h1, h2, h3, h4, h5, decide_true, decide_false, Bool.true_and, Bool.false_and, Bool.true_or, Bool.false_or]
       go_enter Tryd.func48, Tryd.ntmps48
       go_wp2
       go_ret
       exact ⟨by first | rfl | simp, Drawn0.refl _⟩)

def name_isStem.f (a0 : ByteArray) : Option Bool := some (Nm.stem a0)
set_option maxHeartbeats 4000000 in
set_option maxRecDepth 100000 in
theorem name_isStem.calls (a0 : ByteArray) (r : Bool) (w : World) (h : name_isStem.f a0 = some r) (hG_ : Glob w) :
    Calls Tryd.prog 40 #[.string a0] w fun e w' => e = .returned (.bool r) ∧ Below w.heap.size w w' := by
  obtain rfl := Option.some.inj h
  clear h
  go_enter Tryd.func40, Tryd.ntmps40
  go_wp2
  go_loopg [3, 4, 5, 6, 7] a0.size (fun gf v3 v4 v5 v6 v7 wx => ∃ (pos : Nat), wx.heap[w.heap.size]? = some (.stringIter a0 pos) ∧ Below w.heap.size w wx ∧ Hid (Nm.stemFrom a0 gf pos = Nm.stem a0) ∧ a0.size ≤ pos + gf)
  case atStart => exact ⟨0, World.iter_heap w a0 0, (Below.refl _ w).alloc (Nat.le_refl _) _, rfl, by omega⟩
  case round =>
    obtain ⟨pos, hit, hbw, HS, hfu⟩ := hrel
    by_cases hps : pos < a0.size
    · obtain ⟨g', rfl⟩ : ∃ g', gk = g' + 1 := ⟨gk - 1, by omega⟩
      have hnx : ∀ ty, (Instr.next (.pointer (some ⟨w.heap.size, 0, none⟩)) true ty).run Tryd.prog wr = _ := fun ty => Lib.run_next_any_at wr w.heap.size a0 pos ty hit hps
      have hwd := Lib.width_pos a0 pos
      have hleft := HS.out
      simp only [Nm.stemFrom, hps, if_true] at hleft
      clear HS
      obtain ⟨R, hR⟩ : ∃ R, (Utf8.decode a0 pos).1 = R := ⟨_, rfl⟩
      obtain ⟨K, hK⟩ : ∃ K, (Utf8.decode a0 pos).2 = K := ⟨_, rfl⟩
      rw [hR, hK] at hnx
      rw [hK] at hwd hleft
      have hbad : Nm.badAt a0 pos = (!(Nm.letter (R : Int) (Nm.wrongAt a0 pos)) && (decide (pos = 0) || (!decide ((R : Int) = 95) && (decide ((R : Int) < 48) || decide (57 < (R : Int)))))) := by unfold Nm.badAt; rw [hR]
      have hwr : Nm.wrongAt a0 pos = (decide ((R : Int) = 65533) && decide ((decodeGo (a0.extract pos a0.size)).2 = 1)) := by unfold Nm.wrongAt; rw [hR]
      have hit2 := Lib.iterAt_heap wr w.heap.size a0 pos (pos + K) hit
      have hbw2 := Lib.below_iterAt hbw (k := w.heap.size) (Nat.le_refl _) a0 (pos + K)
      obtain ⟨W, hWd⟩ : ∃ W, wr.iterAt w.heap.size a0 (pos + K) = W := ⟨_, rfl⟩
      rw [hWd] at hnx hit2 hbw2
      have hG2 : Glob W := hG_.below hbw2
      obtain ⟨X, hX⟩ : ∃ X, Nm.wrongAt a0 pos = X := ⟨_, rfl⟩
      rw [hX] at hbad hwr
      obtain ⟨B, hB⟩ : ∃ B, Nm.badAt a0 pos = B := ⟨_, rfl⟩
      rw [hB] at hbad hleft
      have HL := Lib.hid hleft
      have HB := Lib.hid hbad
      have HW := Lib.hid hwr
      clear hWd hR hK hit hbw hX hB hleft hbad hwr
      -- the rest of the round behind 'wrong'
      have p0 : (0 : Int) ≤ (pos : Int) := by omega
      have p1 : (pos : Int) ≤ (a0.size : Int) := by omega
      by_cases hre : (R : Int) = 65533
      · have b1 : ((R : Int) == 65533) = true := beq_iff_eq.mpr hre
        have hne0 : ((R : Int) != 95) = true := by rw [hre]; rfl
        clear hre
        go_wp2_with (go_at_call 47; refine (Tryd.utf8_DecodeRuneInString _ _ hG2.u).mono ?_; rintro e w2 ⟨rfl, hb2⟩)
        have e1 : (((decodeGo (a0.extract pos a0.size)).2 : Int) == 1) = X := by
          rw [HW.out, decide_eq_true (eq_of_beq b1), Bool.true_and]
          by_cases h : (decodeGo (a0.extract pos a0.size)).2 = 1
          · rw [h]; rfl
          · rw [decide_eq_false h]; exact beq_eq_false_iff_ne.mpr (by omega)
        rw [e1]
        clear e1 HW
        have hit3 : w2.heap[w.heap.size]? = some (.stringIter a0 (pos + K)) := (hb2.block _ (lt_of_block hit2)).trans hit2
        have hbw3 : Below w.heap.size w w2 := hbw2.trans (hb2.mono (by have := lt_of_block hit2; omega))
        clear hb2 hit2 hbw2 hG2 hnx
        refine (name_letter.calls (R : Int) X _ w2 rfl).mono ?_
        rintro e w3 ⟨rfl, ⟨nd, rfl⟩⟩
        have hbw4 := nm_drewN hbw3 nd
        clear hbw3
        obtain ⟨L, hL⟩ : ∃ L, Nm.letter (R : Int) X = L := ⟨_, rfl⟩
        rw [hL] at HB
        simp only [hL]
        clear hL
        have h57 : decide (57 < (R : Int)) = true := by rw [eq_of_beq b1]; rfl
        have h48 : decide ((R : Int) < 48) = false := by rw [eq_of_beq b1]; rfl
        have h95 : decide ((R : Int) = 95) = false := by rw [eq_of_beq b1]; rfl
        cases L
        · have HB2 := HB.out
          rw [h57, h95, h48] at HB2
          simp only [Bool.not_false, Bool.or_true, Bool.and_self] at HB2
          subst HB2
          have HL2 := HL.out
          simp only [if_true] at HL2
          have HL3 := Lib.hid HL2
          clear HL2 HL HB h95
          go_wp2
          all_goals
            go_ret
            exact ⟨by rw [← HL3.out]; rfl, hbw4⟩
        · have HB2 := HB.out
          simp only [Bool.not_true, Bool.false_and] at HB2
          subst HB2
          have HL2 := HL.out
          simp only [Bool.false_eq_true, if_false] at HL2
          have HL3 := Lib.hid HL2
          clear HL2 HL HB h95
          go_wp2
          go_roundg g'
          case measure => omega
          case rel => exact ⟨pos + K, hit3, hbw4, HL3, by omega⟩
      · have b1 : ((R : Int) == 65533) = false := beq_eq_false_iff_ne.mpr hre
        have e1 : false = X := by rw [HW.out, decide_eq_false hre, Bool.false_and]
        subst e1
        clear HW hre
        go_wp2_with fail
        refine (name_letter.calls (R : Int) false _ W rfl).mono ?_
        rintro e w3 ⟨rfl, ⟨nd, rfl⟩⟩
        have hbw4 := nm_drewN hbw2 nd
        clear hbw2 hG2 hnx
        obtain ⟨L, hL⟩ : ∃ L, Nm.letter (R : Int) false = L := ⟨_, rfl⟩
        rw [hL] at HB
        simp only [hL]
        clear hL
        cases L
        · by_cases hp0 : pos = 0
          · have HB2 := HB.out
            rw [decide_eq_true hp0] at HB2
            simp only [Bool.not_false, Bool.true_and, Bool.true_or] at HB2
            subst HB2
            have HL2 := HL.out
            simp only [if_true] at HL2
            have HL3 := Lib.hid HL2
            have b0 : ((pos : Int) == 0) = true := beq_iff_eq.mpr (by omega)
            clear HL2 HL HB p0 p1
            go_wp2
            go_ret
            exact ⟨by rw [← HL3.out]; rfl, hbw4⟩
          · have b0 : ((pos : Int) == 0) = false := beq_eq_false_iff_ne.mpr (by omega)
            by_cases h95 : (R : Int) = 95
            · have HB2 := HB.out
              rw [decide_eq_true h95, decide_eq_false hp0] at HB2
              simp only [Bool.not_false, Bool.true_and, Bool.not_true, Bool.false_and, Bool.false_or] at HB2
              subst HB2
              have HL2 := HL.out
              simp only [Bool.false_eq_true, if_false] at HL2
              have HL3 := Lib.hid HL2
              have b95 : ((R : Int) != 95) = false := bne_eq_false_iff_eq.mpr h95
              clear HL2 HL HB h95 hp0
              go_wp2
              go_roundg g'
              case measure => omega
              case rel => exact ⟨pos + K, hit2, hbw4, HL3, by omega⟩
            · have b95 : ((R : Int) != 95) = true := bne_iff_ne.mpr h95
              have HB2 := HB.out
              rw [decide_eq_false h95, decide_eq_false hp0] at HB2
              simp only [Bool.not_false, Bool.true_and, Bool.false_or] at HB2
              by_cases hlo : (R : Int) < 48
              · have blo : decide ((R : Int) < 48) = true := decide_eq_true hlo
                rw [blo, Bool.true_or] at HB2
                subst HB2
                have HL2 := HL.out
                simp only [if_true] at HL2
                have HL3 := Lib.hid HL2
                clear HL2 HL HB h95 hp0 hlo
                go_wp2
                go_ret
                exact ⟨by rw [← HL3.out]; rfl, hbw4⟩
              · have blo : decide ((R : Int) < 48) = false := decide_eq_false hlo
                by_cases hhi : 57 < (R : Int)
                · have bhi : decide (57 < (R : Int)) = true := decide_eq_true hhi
                  rw [blo, bhi, Bool.or_true] at HB2
                  subst HB2
                  have HL2 := HL.out
                  simp only [if_true] at HL2
                  have HL3 := Lib.hid HL2
                  clear HL2 HL HB h95 hp0 hlo hhi
                  go_wp2
                  go_ret
                  exact ⟨by rw [← HL3.out]; rfl, hbw4⟩
                · have bhi : decide (57 < (R : Int)) = false := decide_eq_false hhi
                  rw [blo, bhi, Bool.or_false] at HB2
                  subst HB2
                  have HL2 := HL.out
                  simp only [Bool.false_eq_true, if_false] at HL2
                  have HL3 := Lib.hid HL2
                  clear HL2 HL HB h95 hp0 hlo hhi
                  go_wp2
                  go_roundg g'
                  case measure => omega
                  case rel => exact ⟨pos + K, hit2, hbw4, HL3, by omega⟩
        · have HB2 := HB.out
          simp only [Bool.not_true, Bool.false_and] at HB2
          subst HB2
          have HL2 := HL.out
          simp only [Bool.false_eq_true, if_false] at HL2
          have HL3 := Lib.hid HL2
          clear HL2 HL HB
          go_wp2
          go_roundg g'
          case measure => omega
          case rel => exact ⟨pos + K, hit2, hbw4, HL3, by omega⟩
    · have hnx : ∀ ty, (Instr.next (.pointer (some ⟨w.heap.size, 0, none⟩)) true ty).run Tryd.prog wr = _ := fun ty => Lib.run_next_end_at wr w.heap.size a0 pos ty hit hps
      have hleft := HS.out
      rw [Nm.stemFrom_end a0 gk pos hps] at hleft
      have e0 := Lib.toList_data a0
      rw [← e0] at hleft
      have HL := Lib.hid hleft
      clear HS hleft e0
      go_wp2
      go_ret
      exact ⟨by rw [← HL.out]; rfl, hbw⟩
theorem laidH_plain (P : Program) (laid : List (String × DataW Unit)) (w : World) (h : (laid.all fun x => x.2.handleName?.isNone) = true) (hl : laidMetH P laid w) : laidMet P laid w := by
  have e : (laid.filter fun x => x.2.handleName?.isSome) = [] := by
    rw [List.filter_eq_nil_iff]
    intro x hx hs
    have := List.all_eq_true.1 h x hx
    cases hn : x.2.handleName? with
    | none => rw [hn] at hs; cases hs
    | some s => rw [hn] at this; cases this
  unfold laidMetH at hl
  rw [e] at hl
  exact hl
end Go.Proofs.YtlgmboaoemlnpaaDoor
