-- WRITTEN BY bud.py (a program of this session's over the kit's print). Not trusted: Lean checks it.
import Derived.Test.YtllkloneapjgjaaPx0
import Derived.Test.YtllkloneapjgjaaLkIdxF
namespace Go.Proofs.Ytllkloneapjgjaa.P
open Go.RowKit Go.Proofs.YtllkloneapjgjaaW.PrintWords Go.Proofs.YtllkloneapjgjaaW.PrintLast Go.Proofs.YtllkloneapjgjaaW.PrintMore
attribute [local go_sem] max2_int min2_int max_two min_two max_three min_three max_four min_four   -- for this text's walks alone
set_option linter.unusedVariables false
set_option linter.unusedSimpArgs false

/-! ### budwoodref10_Size: function 5 -/
def budwoodref10_Size.l0 : Nat → Int → List Int → Int → Option (Int)
  | 0, _, _, _ => none
  | k + 1, x3, x4, x5 => if x5 < 4 then (if x3 ≤ 65536 then (if 0 ≤ x5 then (if x5 < (x4.length : Int) then (budwoodref10_Size.l0 k (wrap64 (x3 + (mn (rd x4 x5) 65536))) x4 (wrap64 (x5 + 1))) else (none)) else (none)) else (some x3)) else (some x3)
def budwoodref10_Size.f (k : Nat) (a0_0 : ByteArray) (l0_1 : List ByteArray) (l0_2 : List ByteArray) (l0_3 : List Int) (l0_4 : List Int) (l0_5 : List (S53)) : Option (Int) := budwoodref10_Size.l0 k (l0_1.length : Int) (([(l0_2.length : Int), (l0_3.length : Int), (l0_4.length : Int), (l0_5.length : Int)] : List Int)) 0
theorem budwoodref10_Size.mono_l : ∀ k, (∀ y0 y1 y2, LeO (budwoodref10_Size.l0 k y0 y1 y2) (budwoodref10_Size.l0 (k + 1) y0 y1 y2))
  | 0 => fun _ _ _ r h => by simp [budwoodref10_Size.l0] at h
  | k + 1 => by
    have ih0 := budwoodref10_Size.mono_l k
    · intro y0 y1 y2
      unfold budwoodref10_Size.l0
      repeat' first
      | (with_reducible exact ih0 _ _ _)
      | (with_reducible exact LeO.refl _)
      | (with_reducible exact LeO.none _)
      | (with_reducible refine LeO.ite ?_ ?_)
      | (with_reducible refine LeO.bind ?_ (fun _ => ?_))
      | exact ih0 _ _ _
      | exact LeO.none _
      | refine LeO.ite ?_ ?_
      | refine LeO.bind ?_ (fun _ => ?_)
theorem budwoodref10_Size.mono : ∀ a0 a1 a2 a3 a4 a5 k, LeO (budwoodref10_Size.f k a0 a1 a2 a3 a4 a5) (budwoodref10_Size.f (k + 1) a0 a1 a2 a3 a4 a5) := by
  intro a0 a1 a2 a3 a4 a5 k
  have ih0 := budwoodref10_Size.mono_l k
  unfold budwoodref10_Size.f
  repeat' first
      | (with_reducible exact ih0 _ _ _)
      | (with_reducible exact LeO.refl _)
      | (with_reducible exact LeO.none _)
      | (with_reducible refine LeO.ite ?_ ?_)
      | (with_reducible refine LeO.bind ?_ (fun _ => ?_))
      | exact ih0 _ _ _
      | exact LeO.none _
      | refine LeO.ite ?_ ?_
      | refine LeO.bind ?_ (fun _ => ?_)

/-! ### layout_up: function 31 -/
def layout_up.f (a0 : Int) : Option (Int) := some (wrap64 (Int.tdiv (wrap64 ((wrap64 (a0 + 16)) - 1)) 16))

/-! ### layout_Spot: function 15 -/
def layout_Spot.f (a0_0 : ByteArray) (l0_1 : List ByteArray) (l0_2 : List ByteArray) (l0_3 : List Int) (l0_4 : List Int) (l0_5 : List (S53)) (a1 : Int) : Option (Bool × Int × Bool) := if a1 < 0 then (some (false, 0, false)) else (if a1 < (l0_3.length : Int) then (some (true, a1, true)) else ((layout_up.f (l0_3.length : Int)).bind fun t107 => (if (wrap64 (a1 - (wrap64 (t107 * 16)))) < 0 then (some (false, 0, false)) else (if (wrap64 (a1 - (wrap64 (t107 * 16)))) ≥ (l0_4.length : Int) then (some (false, 0, false)) else (some (false, wrap64 (a1 - (wrap64 (t107 * 16))), true))))))

/-! ### layout_Raw: function 14 -/
def layout_Raw.f (a0_0 : ByteArray) (l0_1 : List ByteArray) (l0_2 : List ByteArray) (l0_3 : List Int) (l0_4 : List Int) (l0_5 : List (S53)) (a1 : Int) : Option (Int) := (layout_Spot.f a0_0 l0_1 l0_2 l0_3 l0_4 l0_5 a1).bind fun bt109 => (if bt109.2.2 = true then (if bt109.1 = true then (if 0 ≤ bt109.2.1 then (if bt109.2.1 < (l0_3.length : Int) then (some (rd l0_3 bt109.2.1)) else (none)) else (none)) else (if 0 ≤ bt109.2.1 then (if bt109.2.1 < (l0_4.length : Int) then (some (rd l0_4 bt109.2.1)) else (none)) else (none))) else (some 0))

-- NOT PRINTED: function 16 (api_Reloc)

/-! ### link_data: function 18 -/
def link_data.f (a0 : Int) : Option (Bool) := if a0 = 4 then (some true) else (if a0 = 5 then (some true) else (some (a0 == 6)))

-- NOT PRINTED: function 17 (link_Word_1)

/-! ### reloc_Value: function 19 -/
mutual
def reloc_Value.j0 : Nat → List Int → Int → Int → Bool → Int → Int → Int → Int → Int → Option (Int × Int)
  | 0, _, _, _, _, _, _, _, _, _ => none
  | k + 1, x2, x8, x12, x13, x116000, x116001, x116002, x117000, x117001 => if x13 = true then (if (wrap64 (x116002)) ≥ (x2.length : Int) then (some (0, 2)) else (if 0 ≤ x116002 then (if x116002 < (x2.length : Int) then (some (rd x2 x116002, 0)) else (none)) else (none))) else (if x12 = 2 then (reloc_Value.j1 k x8 x12 (x12 == 2) x116000 x116001 x116002 x117000 x117001) else (reloc_Value.j1 k x8 x12 (x12 == 5) x116000 x116001 x116002 x117000 x117001))
def reloc_Value.j1 : Nat → Int → Int → Bool → Int → Int → Int → Int → Int → Option (Int × Int)
  | 0, _, _, _, _, _, _, _, _ => none
  | k + 1, x8, x12, x17, x116000, x116001, x116002, x117000, x117001 => if x17 = true then (some ((x117001 + ((x116002) % 4294967296)) % 4294967296, 0)) else (if x12 = 3 then (reloc_Value.j2 k x8 (x12 == 3) x116000 x116001 x116002) else (if x12 = 6 then (reloc_Value.j2 k x8 (x12 == 6) x116000 x116001 x116002) else (reloc_Value.j2 k x8 (x12 == 7) x116000 x116001 x116002)))
def reloc_Value.j2 : Nat → Int → Bool → Int → Int → Int → Option (Int × Int)
  | 0, _, _, _, _, _ => none
  | k + 1, x8, x20, x116000, x116001, x116002 => if x20 = true then (some ((x8 + ((x116002) % 4294967296)) % 4294967296, 0)) else (some (0, 2))
end
def reloc_Value.f (k : Nat) (a0_0 : Int) (a0_1 : Int) (a0_2 : Int) (a1_0 : Int) (a1_1 : Int) (l2 : List Int) : Option (Int × Int) := if a0_0 = 0 then (reloc_Value.j0 k l2 a1_0 a0_0 (a0_0 == 0) a0_0 a0_1 a0_2 a1_0 a1_1) else (if a0_0 = 1 then (reloc_Value.j0 k l2 a1_0 a0_0 (a0_0 == 1) a0_0 a0_1 a0_2 a1_0 a1_1) else (reloc_Value.j0 k l2 a1_0 a0_0 (a0_0 == 4) a0_0 a0_1 a0_2 a1_0 a1_1))
theorem reloc_Value.mono_l : ∀ k, (∀ y0 y1 y2 y3 y4 y5 y6 y7 y8, LeO (reloc_Value.j0 k y0 y1 y2 y3 y4 y5 y6 y7 y8) (reloc_Value.j0 (k + 1) y0 y1 y2 y3 y4 y5 y6 y7 y8)) ∧ (∀ y0 y1 y2 y3 y4 y5 y6 y7, LeO (reloc_Value.j1 k y0 y1 y2 y3 y4 y5 y6 y7) (reloc_Value.j1 (k + 1) y0 y1 y2 y3 y4 y5 y6 y7)) ∧ (∀ y0 y1 y2 y3 y4, LeO (reloc_Value.j2 k y0 y1 y2 y3 y4) (reloc_Value.j2 (k + 1) y0 y1 y2 y3 y4))
  | 0 => ⟨fun _ _ _ _ _ _ _ _ _ r h => by simp [reloc_Value.j0] at h, fun _ _ _ _ _ _ _ _ r h => by simp [reloc_Value.j1] at h, fun _ _ _ _ _ r h => by simp [reloc_Value.j2] at h⟩
  | k + 1 => by
    obtain ⟨ih0, ih1, ih2⟩ := reloc_Value.mono_l k
    refine ⟨?_, ?_, ?_⟩
    · intro y0 y1 y2 y3 y4 y5 y6 y7 y8
      unfold reloc_Value.j0
      repeat' first
      | (with_reducible exact ih0 _ _ _ _ _ _ _ _ _)
      | (with_reducible exact ih1 _ _ _ _ _ _ _ _)
      | (with_reducible exact ih2 _ _ _ _ _)
      | (with_reducible exact LeO.refl _)
      | (with_reducible exact LeO.none _)
      | (with_reducible refine LeO.ite ?_ ?_)
      | (with_reducible refine LeO.bind ?_ (fun _ => ?_))
      | exact ih0 _ _ _ _ _ _ _ _ _
      | exact ih1 _ _ _ _ _ _ _ _
      | exact ih2 _ _ _ _ _
      | exact LeO.none _
      | refine LeO.ite ?_ ?_
      | refine LeO.bind ?_ (fun _ => ?_)
    · intro y0 y1 y2 y3 y4 y5 y6 y7
      unfold reloc_Value.j1
      repeat' first
      | (with_reducible exact ih0 _ _ _ _ _ _ _ _ _)
      | (with_reducible exact ih1 _ _ _ _ _ _ _ _)
      | (with_reducible exact ih2 _ _ _ _ _)
      | (with_reducible exact LeO.refl _)
      | (with_reducible exact LeO.none _)
      | (with_reducible refine LeO.ite ?_ ?_)
      | (with_reducible refine LeO.bind ?_ (fun _ => ?_))
      | exact ih0 _ _ _ _ _ _ _ _ _
      | exact ih1 _ _ _ _ _ _ _ _
      | exact ih2 _ _ _ _ _
      | exact LeO.none _
      | refine LeO.ite ?_ ?_
      | refine LeO.bind ?_ (fun _ => ?_)
    · intro y0 y1 y2 y3 y4
      unfold reloc_Value.j2
      repeat' first
      | (with_reducible exact ih0 _ _ _ _ _ _ _ _ _)
      | (with_reducible exact ih1 _ _ _ _ _ _ _ _)
      | (with_reducible exact ih2 _ _ _ _ _)
      | (with_reducible exact LeO.refl _)
      | (with_reducible exact LeO.none _)
      | (with_reducible refine LeO.ite ?_ ?_)
      | (with_reducible refine LeO.bind ?_ (fun _ => ?_))
      | exact ih0 _ _ _ _ _ _ _ _ _
      | exact ih1 _ _ _ _ _ _ _ _
      | exact ih2 _ _ _ _ _
      | exact LeO.none _
      | refine LeO.ite ?_ ?_
      | refine LeO.bind ?_ (fun _ => ?_)
theorem reloc_Value.mono : ∀ a0 a1 a2 a3 a4 a5 k, LeO (reloc_Value.f k a0 a1 a2 a3 a4 a5) (reloc_Value.f (k + 1) a0 a1 a2 a3 a4 a5) := by
  intro a0 a1 a2 a3 a4 a5 k
  obtain ⟨ih0, ih1, ih2⟩ := reloc_Value.mono_l k
  unfold reloc_Value.f
  repeat' first
      | (with_reducible exact ih0 _ _ _ _ _ _ _ _ _)
      | (with_reducible exact ih1 _ _ _ _ _ _ _ _)
      | (with_reducible exact ih2 _ _ _ _ _)
      | (with_reducible exact LeO.refl _)
      | (with_reducible exact LeO.none _)
      | (with_reducible refine LeO.ite ?_ ?_)
      | (with_reducible refine LeO.bind ?_ (fun _ => ?_))
      | exact ih0 _ _ _ _ _ _ _ _ _
      | exact ih1 _ _ _ _ _ _ _ _
      | exact ih2 _ _ _ _ _
      | exact LeO.none _
      | refine LeO.ite ?_ ?_
      | refine LeO.bind ?_ (fun _ => ?_)

/-! ### word_Fits: function 33 -/
def word_Fits.f (a0 : Int) (a1 : Int) : Option (Bool) := if a1 < 1 then (some false) else (if a1 > 32 then (some false) else (if 0 ≤ (wrap64 (a1 - 1)) then (if (shr .i64 a0 (wrap64 (a1 - 1))) = 0 then (some true) else (some ((shr .i64 a0 (wrap64 (a1 - 1))) == (-1)))) else (none)))

/-! ### isa_Uses: function 55 -/
mutual
def isa_Uses.j0 : Nat → Int → Bool → Bool → Bool → Bool → Bool → Option (Bool × Bool × Bool × Bool)
  | 0, _, _, _, _, _, _ => none
  | k + 1, x0, x2, x3, x4, x5, x6 => if x6 = true then (some (true, true, true, false)) else (if x0 > 21 then (some (false, false, false, false)) else (if x0 = 11 then (isa_Uses.j1 k x2 x3 x4 x5 x0 (x0 == 11)) else (if x0 = 12 then (isa_Uses.j1 k x2 x3 x4 x5 x0 (x0 == 12)) else (if x0 = 13 then (isa_Uses.j1 k x2 x3 x4 x5 x0 (x0 == 13)) else (if x0 = 15 then (isa_Uses.j1 k x2 x3 x4 x5 x0 (x0 == 15)) else (isa_Uses.j1 k x2 x3 x4 x5 x0 (x0 == 16)))))))
def isa_Uses.j1 : Nat → Bool → Bool → Bool → Bool → Int → Bool → Option (Bool × Bool × Bool × Bool)
  | 0, _, _, _, _, _, _ => none
  | k + 1, x2, x3, x4, x5, x16, x17 => if x17 = true then (some (true, true, x4, true)) else (if x16 = 2 then (some (true, x3, x4, true)) else (if x16 = 14 then (isa_Uses.j2 k x2 x3 x4 x5 x16 (x16 == 14)) else (if x16 = 17 then (isa_Uses.j2 k x2 x3 x4 x5 x16 (x16 == 17)) else (isa_Uses.j2 k x2 x3 x4 x5 x16 (x16 == 21)))))
def isa_Uses.j2 : Nat → Bool → Bool → Bool → Bool → Int → Bool → Option (Bool × Bool × Bool × Bool)
  | 0, _, _, _, _, _, _ => none
  | k + 1, x2, x3, x4, x5, x16, x25 => if x25 = true then (some (x2, x3, x4, true)) else (if x16 = 19 then (some (x2, true, x4, x5)) else (some (x2, x3, x4, x5)))
end
def isa_Uses.f (k : Nat) (a0 : Int) : Option (Bool × Bool × Bool × Bool) := if a0 ≥ 3 then (isa_Uses.j0 k a0 false false false false (decide (a0 ≤ 10))) else (isa_Uses.j0 k a0 false false false false false)
theorem isa_Uses.mono_l : ∀ k, (∀ y0 y1 y2 y3 y4 y5, LeO (isa_Uses.j0 k y0 y1 y2 y3 y4 y5) (isa_Uses.j0 (k + 1) y0 y1 y2 y3 y4 y5)) ∧ (∀ y0 y1 y2 y3 y4 y5, LeO (isa_Uses.j1 k y0 y1 y2 y3 y4 y5) (isa_Uses.j1 (k + 1) y0 y1 y2 y3 y4 y5)) ∧ (∀ y0 y1 y2 y3 y4 y5, LeO (isa_Uses.j2 k y0 y1 y2 y3 y4 y5) (isa_Uses.j2 (k + 1) y0 y1 y2 y3 y4 y5))
  | 0 => ⟨fun _ _ _ _ _ _ r h => by simp [isa_Uses.j0] at h, fun _ _ _ _ _ _ r h => by simp [isa_Uses.j1] at h, fun _ _ _ _ _ _ r h => by simp [isa_Uses.j2] at h⟩
  | k + 1 => by
    obtain ⟨ih0, ih1, ih2⟩ := isa_Uses.mono_l k
    refine ⟨?_, ?_, ?_⟩
    · intro y0 y1 y2 y3 y4 y5
      unfold isa_Uses.j0
      repeat' first
      | (with_reducible exact ih0 _ _ _ _ _ _)
      | (with_reducible exact ih1 _ _ _ _ _ _)
      | (with_reducible exact ih2 _ _ _ _ _ _)
      | (with_reducible exact LeO.refl _)
      | (with_reducible exact LeO.none _)
      | (with_reducible refine LeO.ite ?_ ?_)
      | (with_reducible refine LeO.bind ?_ (fun _ => ?_))
      | exact ih0 _ _ _ _ _ _
      | exact ih1 _ _ _ _ _ _
      | exact ih2 _ _ _ _ _ _
      | exact LeO.none _
      | refine LeO.ite ?_ ?_
      | refine LeO.bind ?_ (fun _ => ?_)
    · intro y0 y1 y2 y3 y4 y5
      unfold isa_Uses.j1
      repeat' first
      | (with_reducible exact ih0 _ _ _ _ _ _)
      | (with_reducible exact ih1 _ _ _ _ _ _)
      | (with_reducible exact ih2 _ _ _ _ _ _)
      | (with_reducible exact LeO.refl _)
      | (with_reducible exact LeO.none _)
      | (with_reducible refine LeO.ite ?_ ?_)
      | (with_reducible refine LeO.bind ?_ (fun _ => ?_))
      | exact ih0 _ _ _ _ _ _
      | exact ih1 _ _ _ _ _ _
      | exact ih2 _ _ _ _ _ _
      | exact LeO.none _
      | refine LeO.ite ?_ ?_
      | refine LeO.bind ?_ (fun _ => ?_)
    · intro y0 y1 y2 y3 y4 y5
      unfold isa_Uses.j2
      repeat' first
      | (with_reducible exact ih0 _ _ _ _ _ _)
      | (with_reducible exact ih1 _ _ _ _ _ _)
      | (with_reducible exact ih2 _ _ _ _ _ _)
      | (with_reducible exact LeO.refl _)
      | (with_reducible exact LeO.none _)
      | (with_reducible refine LeO.ite ?_ ?_)
      | (with_reducible refine LeO.bind ?_ (fun _ => ?_))
      | exact ih0 _ _ _ _ _ _
      | exact ih1 _ _ _ _ _ _
      | exact ih2 _ _ _ _ _ _
      | exact LeO.none _
      | refine LeO.ite ?_ ?_
      | refine LeO.bind ?_ (fun _ => ?_)
theorem isa_Uses.mono : ∀ a0 k, LeO (isa_Uses.f k a0) (isa_Uses.f (k + 1) a0) := by
  intro a0 k
  obtain ⟨ih0, ih1, ih2⟩ := isa_Uses.mono_l k
  unfold isa_Uses.f
  repeat' first
      | (with_reducible exact ih0 _ _ _ _ _ _)
      | (with_reducible exact ih1 _ _ _ _ _ _)
      | (with_reducible exact ih2 _ _ _ _ _ _)
      | (with_reducible exact LeO.refl _)
      | (with_reducible exact LeO.none _)
      | (with_reducible refine LeO.ite ?_ ?_)
      | (with_reducible refine LeO.bind ?_ (fun _ => ?_))
      | exact ih0 _ _ _ _ _ _
      | exact ih1 _ _ _ _ _ _
      | exact ih2 _ _ _ _ _ _
      | exact LeO.none _
      | refine LeO.ite ?_ ?_
      | refine LeO.bind ?_ (fun _ => ?_)

/-! ### isa_Check_1: function 57 -/
def isa_Check_1.f (a0 : Int) (a1 : Bool) : Option (Bool) := if a0 = 0 then (some true) else (if a1 = true then (some (decide (a0 < 8))) else (some false))

/-! ### isa_Check: function 44 -/
mutual
def isa_Check.j0 : Nat → Bool → Int → Int → Int → Int → Int → Option (Int)
  | 0, _, _, _, _, _, _ => none
  | k + 1, x16, x119000, x119001, x119002, x119003, x119004 => if x16 = true then (some 10) else ((word_Fits.f (wrap64 (x119004)) 21).bind fun t126 => (if t126 = true then (if x119000 = 17 then (isa_Check.j1 k (decide (x119004 < 0)) x119000 x119001 x119002 x119003 x119004) else (isa_Check.j1 k false x119000 x119001 x119002 x119003 x119004)) else (some 11)))
def isa_Check.j1 : Nat → Bool → Int → Int → Int → Int → Int → Option (Int)
  | 0, _, _, _, _, _, _ => none
  | k + 1, x59, x119000, x119001, x119002, x119003, x119004 => if x59 = true then (some 11) else (if x119000 = 21 then (if x119004 < 0 then (some 11) else (if x119004 > 63 then (some 11) else (some 0))) else (some 0))
end
def isa_Check.f (k : Nat) (a0_0 : Int) (a0_1 : Int) (a0_2 : Int) (a0_3 : Int) (a0_4 : Int) : Option (Int) := (isa_Uses.f k a0_0).bind fun bt119 => (if a0_0 > 21 then (isa_Check.j0 k true a0_0 a0_1 a0_2 a0_3 a0_4) else ((isa_Check_1.f a0_1 bt119.1).bind fun t123 => (if t123 = true then ((isa_Check_1.f a0_2 bt119.2.1).bind fun t124 => (if t124 = true then ((isa_Check_1.f a0_3 bt119.2.2.1).bind fun t125 => (if t125 = true then (if bt119.2.2.2 = true then (isa_Check.j0 k false a0_0 a0_1 a0_2 a0_3 a0_4) else (isa_Check.j0 k (a0_4 != 0) a0_0 a0_1 a0_2 a0_3 a0_4)) else (isa_Check.j0 k true a0_0 a0_1 a0_2 a0_3 a0_4))) else (isa_Check.j0 k true a0_0 a0_1 a0_2 a0_3 a0_4))) else (isa_Check.j0 k true a0_0 a0_1 a0_2 a0_3 a0_4))))
theorem isa_Check.mono_l : ∀ k, (∀ y0 y1 y2 y3 y4 y5, LeO (isa_Check.j0 k y0 y1 y2 y3 y4 y5) (isa_Check.j0 (k + 1) y0 y1 y2 y3 y4 y5)) ∧ (∀ y0 y1 y2 y3 y4 y5, LeO (isa_Check.j1 k y0 y1 y2 y3 y4 y5) (isa_Check.j1 (k + 1) y0 y1 y2 y3 y4 y5))
  | 0 => ⟨fun _ _ _ _ _ _ r h => by simp [isa_Check.j0] at h, fun _ _ _ _ _ _ r h => by simp [isa_Check.j1] at h⟩
  | k + 1 => by
    obtain ⟨ih0, ih1⟩ := isa_Check.mono_l k
    refine ⟨?_, ?_⟩
    · intro y0 y1 y2 y3 y4 y5
      unfold isa_Check.j0
      repeat' first
      | (with_reducible exact ih0 _ _ _ _ _ _)
      | (with_reducible exact ih1 _ _ _ _ _ _)
      | (with_reducible exact isa_Uses.mono _ _)
      | (with_reducible exact LeO.refl _)
      | (with_reducible exact LeO.none _)
      | (with_reducible refine LeO.ite ?_ ?_)
      | (with_reducible refine LeO.bind ?_ (fun _ => ?_))
      | exact ih0 _ _ _ _ _ _
      | exact ih1 _ _ _ _ _ _
      | exact isa_Uses.mono _ _
      | exact LeO.none _
      | refine LeO.ite ?_ ?_
      | refine LeO.bind ?_ (fun _ => ?_)
    · intro y0 y1 y2 y3 y4 y5
      unfold isa_Check.j1
      repeat' first
      | (with_reducible exact ih0 _ _ _ _ _ _)
      | (with_reducible exact ih1 _ _ _ _ _ _)
      | (with_reducible exact isa_Uses.mono _ _)
      | (with_reducible exact LeO.refl _)
      | (with_reducible exact LeO.none _)
      | (with_reducible refine LeO.ite ?_ ?_)
      | (with_reducible refine LeO.bind ?_ (fun _ => ?_))
      | exact ih0 _ _ _ _ _ _
      | exact ih1 _ _ _ _ _ _
      | exact isa_Uses.mono _ _
      | exact LeO.none _
      | refine LeO.ite ?_ ?_
      | refine LeO.bind ?_ (fun _ => ?_)
theorem isa_Check.mono : ∀ a0 a1 a2 a3 a4 k, LeO (isa_Check.f k a0 a1 a2 a3 a4) (isa_Check.f (k + 1) a0 a1 a2 a3 a4) := by
  intro a0 a1 a2 a3 a4 k
  obtain ⟨ih0, ih1⟩ := isa_Check.mono_l k
  unfold isa_Check.f
  repeat' first
      | (with_reducible exact ih0 _ _ _ _ _ _)
      | (with_reducible exact ih1 _ _ _ _ _ _)
      | (with_reducible exact isa_Uses.mono _ _)
      | (with_reducible exact LeO.refl _)
      | (with_reducible exact LeO.none _)
      | (with_reducible refine LeO.ite ?_ ?_)
      | (with_reducible refine LeO.bind ?_ (fun _ => ?_))
      | exact ih0 _ _ _ _ _ _
      | exact ih1 _ _ _ _ _ _
      | exact isa_Uses.mono _ _
      | exact LeO.none _
      | refine LeO.ite ?_ ?_
      | refine LeO.bind ?_ (fun _ => ?_)

/-! ### word_may: function 58 -/
def word_may.f (a0 : Int) (a1 : Int) : Option (Bool) := if a0 ≥ 0 then (if a1 ≥ 0 then (if a0 ≤ 32 then (some (decide (a1 ≤ (wrap64 (32 - a0))))) else (some false)) else (some false)) else (some false)

/-! ### word_mask: function 59 -/
def word_mask.f (a0 : Int) : Option (Int) := if 0 ≤ a0 then (some (((shl .u32 1 a0) - 1) % 4294967296)) else (none)

/-! ### word_With: function 45 -/
def word_With.f (a0 : Int) (a1 : Int) (a2 : Int) (a3 : Int) : Option (Int) := (word_may.f a1 a2).bind fun t127 => (if t127 = true then ((word_mask.f a2).bind fun t128 => (if 0 ≤ a1 then ((word_mask.f a2).bind fun t129 => (some (Go.bits .or .u32 (Go.bits .andNot .u32 a0 (shl .u32 t128 a1)) (shl .u32 (Go.bits .and .u32 a3 t129) a1)))) else (none))) else (some a0))

/-! ### word_Cut: function 46 -/
def word_Cut.f (a0 : Int) (a1 : Int) : Option (Int) := if a1 < 1 then (some 0) else ((word_mask.f (mn a1 32)).bind fun t130 => (some (Go.bits .and .u32 ((a0) % 4294967296) t130)))

/-! ### isa_Encode: function 34 -/
def isa_Encode.f (k : Nat) (a0_0 : Int) (a0_1 : Int) (a0_2 : Int) (a0_3 : Int) (a0_4 : Int) : Option (Int × Int) := (isa_Check.f k a0_0 a0_1 a0_2 a0_3 a0_4).bind fun t132 => (if t132 = 0 then ((word_Cut.f a0_4 21).bind fun t133 => ((word_With.f (Go.bits .or .u32 t133 ((a0_3) % 4294967296)) 27 5 ((a0_0) % 4294967296)).bind fun t134 => ((word_With.f t134 24 3 ((a0_1) % 4294967296)).bind fun t135 => ((word_With.f t135 21 3 ((a0_2) % 4294967296)).bind fun t136 => (some (t136, 0)))))) else (some (0, t132)))
theorem isa_Encode.mono : ∀ a0 a1 a2 a3 a4 k, LeO (isa_Encode.f k a0 a1 a2 a3 a4) (isa_Encode.f (k + 1) a0 a1 a2 a3 a4) := by
  intro a0 a1 a2 a3 a4 k
  unfold isa_Encode.f
  repeat' first
      | (with_reducible exact isa_Check.mono _ _ _ _ _ _)
      | (with_reducible exact LeO.refl _)
      | (with_reducible exact LeO.none _)
      | (with_reducible refine LeO.ite ?_ ?_)
      | (with_reducible refine LeO.bind ?_ (fun _ => ?_))
      | exact isa_Check.mono _ _ _ _ _ _
      | exact LeO.none _
      | refine LeO.ite ?_ ?_
      | refine LeO.bind ?_ (fun _ => ?_)
def isa_Encode.T4 : Bool × List (List Nat × List Nat) := (true, [([], []), ([0], [0]), ([1], [1]), ([], []), ([3], [3]), ([4], [4]), ([2, 5], [2, 5]), ([], []), ([7], [7]), ([8], [8]), ([6, 9, 2], [6, 9]), ([10, 10, 0, 1, 2, 3, 4, 5, 6, 7, 8, 9, 10], [10])])
def isa_Encode.B4 : List Nat := [0, 1, 3, 0, 8, 24, 63, 0, 128, 384, 1023, 2047]
theorem isa_Encode.tab4 : rtab .any (opsOf Try.f34 4) = isa_Encode.T4 := by kernel_rfl
theorem isa_Encode.bits4 : waitsOk isa_Encode.T4.2 isa_Encode.B4 = true := by kernel_rfl
def isa_Encode.T5 : Bool × List (List Nat × List Nat) := (true, [([], []), ([], []), ([1], [1]), ([2], [2]), ([0, 3], [0, 3]), ([], []), ([5], [5]), ([6], [6]), ([4, 7, 4], [4, 7]), ([8, 8, 0, 1, 2, 3, 4, 5, 6, 7, 8], [8]), ([9, 0, 1, 2, 3, 4, 5, 6, 7, 8, 9], [])])
def isa_Encode.B5 : List Nat := [0, 0, 2, 6, 15, 0, 32, 96, 255, 511, 1023]
theorem isa_Encode.tab5 : rtab .any (opsOf Try.f34 5) = isa_Encode.T5 := by kernel_rfl
theorem isa_Encode.bits5 : waitsOk isa_Encode.T5.2 isa_Encode.B5 = true := by kernel_rfl

/-! ### word_Bits: function 54 -/
def word_Bits.f (a0 : Int) (a1 : Int) (a2 : Int) : Option (Int) := (word_may.f a1 a2).bind fun t137 => (if t137 = true then (if 0 ≤ a1 then ((word_mask.f a2).bind fun t138 => (some (Go.bits .and .u32 (shr .u32 a0 a1) t138))) else (none)) else (some 0))

/-! ### word_Signed: function 56 -/
def word_Signed.f (a0 : Int) (a1 : Int) : Option (Int) := if a1 < 1 then (some 0) else (if a1 > 32 then (some 0) else (if 0 ≤ (wrap64 (32 - a1)) then (some (shr .i32 (wrap32 (shl .u32 a0 (wrap64 (32 - a1)))) (wrap64 (32 - a1)))) else (none)))

/-! ### isa_Decode: function 43 -/
def isa_Decode.f (k : Nat) (a0 : Int) : Option (Int × Int × Int × Int × Int × Int) := (word_Bits.f a0 27 5).bind fun t140 => ((word_Bits.f a0 24 3).bind fun t141 => ((word_Bits.f a0 21 3).bind fun t142 => ((isa_Uses.f k ((t140) % 256)).bind fun bt144 => (if bt144.2.2.1 = true then ((word_Bits.f a0 0 3).bind fun t148 => ((isa_Encode.f k ((t140) % 256) ((t141) % 256) ((t142) % 256) ((t148) % 256) 0).bind fun bt149 => (if bt149.2 = 0 then (if bt149.1 = a0 then (some ((t140) % 256, (t141) % 256, (t142) % 256, (t148) % 256, 0, 0)) else (some (0, 0, 0, 0, 0, 10))) else (some (0, 0, 0, 0, 0, 10))))) else ((word_Signed.f a0 21).bind fun t151 => ((isa_Encode.f k ((t140) % 256) ((t141) % 256) ((t142) % 256) 0 t151).bind fun bt152 => (if bt152.2 = 0 then (if bt152.1 = a0 then (some ((t140) % 256, (t141) % 256, (t142) % 256, 0, t151, 0)) else (some (0, 0, 0, 0, 0, 10))) else (some (0, 0, 0, 0, 0, 10)))))))))
theorem isa_Decode.mono : ∀ a0 k, LeO (isa_Decode.f k a0) (isa_Decode.f (k + 1) a0) := by
  intro a0 k
  unfold isa_Decode.f
  repeat' first
      | (with_reducible exact isa_Encode.mono _ _ _ _ _ _)
      | (with_reducible exact isa_Uses.mono _ _)
      | (with_reducible exact LeO.refl _)
      | (with_reducible exact LeO.none _)
      | (with_reducible refine LeO.ite ?_ ?_)
      | (with_reducible refine LeO.bind ?_ (fun _ => ?_))
      | exact isa_Encode.mono _ _ _ _ _ _
      | exact isa_Uses.mono _ _
      | exact LeO.none _
      | refine LeO.ite ?_ ?_
      | refine LeO.bind ?_ (fun _ => ?_)

/-! ### reloc_blank: function 32 -/
def reloc_blank.f (k : Nat) (a0 : Int) (a1 : Int) : Option (Int × Int × Int × Int × Int × Int × Int) := (isa_Decode.f k a0).bind fun bt155 => (if a1 = 0 then (if bt155.2.2.2.2.2 = 0 then (if (!(bt155.1 == 17) || (!(bt155.2.1 == 0) || (!(bt155.2.2.1 == 0) || (!(bt155.2.2.2.1 == 0))))) = true then (some (0, 0, 0, 0, 0, 0, 10)) else (some (bt155.1, bt155.2.1, bt155.2.2.1, bt155.2.2.2.1, 0, bt155.2.2.2.2.1, 0))) else (some (0, 0, 0, 0, 0, 0, 10))) else (if bt155.2.2.2.2.2 = 0 then (if a1 = 7 then (if (!(bt155.1 == 17) || (!(bt155.2.1 == 0) || (!(bt155.2.2.1 == 0) || (!(bt155.2.2.2.1 == 0))))) = true then (some (0, 0, 0, 0, 0, 0, 10)) else (some (bt155.1, bt155.2.1, bt155.2.2.1, bt155.2.2.2.1, 0, bt155.2.2.2.2.1, 0))) else (if bt155.1 = 2 then (some (bt155.1, bt155.2.1, bt155.2.2.1, bt155.2.2.2.1, 0, bt155.2.2.2.2.1, 0)) else (some (0, 0, 0, 0, 0, 0, 10)))) else (some (0, 0, 0, 0, 0, 0, 10))))
theorem reloc_blank.mono : ∀ a0 a1 k, LeO (reloc_blank.f k a0 a1) (reloc_blank.f (k + 1) a0 a1) := by
  intro a0 a1 k
  unfold reloc_blank.f
  repeat' first
      | (with_reducible exact isa_Decode.mono _ _)
      | (with_reducible exact LeO.refl _)
      | (with_reducible exact LeO.none _)
      | (with_reducible refine LeO.ite ?_ ?_)
      | (with_reducible refine LeO.bind ?_ (fun _ => ?_))
      | exact isa_Decode.mono _ _
      | exact LeO.none _
      | refine LeO.ite ?_ ?_
      | refine LeO.bind ?_ (fun _ => ?_)

/-! ### reloc_Apply: function 20 -/
def reloc_Apply.j0 : Nat → Int → Bool → Int → Int → Int → Int → Int → Option (Int × Int)
  | 0, _, _, _, _, _, _, _ => none
  | k + 1, x2, x26, x170000, x170001, x170002, x170003, x170004 => if x26 = true then (some (0, 10)) else ((word_Fits.f (wrap64 (x2)) 21).bind fun t170 => (if t170 = true then ((isa_Encode.f k x170000 x170001 x170002 x170003 (wrap32 (x2))).bind fun bt171 => (some (bt171.1, bt171.2))) else (some (0, 30))))
def reloc_Apply.f (k : Nat) (a0 : Int) (a1 : Int) (a2 : Int) : Option (Int × Int) := if a1 = 4 then (some (a2, 0)) else (if a1 = 5 then (some (a2, 0)) else (if a1 = 6 then (some (a2, 0)) else (if a1 > 7 then (some (0, 2)) else ((reloc_blank.f k a0 a1).bind fun bt162 => (if bt162.2.2.2.2.2.2 = 0 then (reloc_Apply.j0 k a2 (bt162.2.2.2.2.2.1 != 0) bt162.1 bt162.2.1 bt162.2.2.1 bt162.2.2.2.1 bt162.2.2.2.2.1) else (reloc_Apply.j0 k a2 true bt162.1 bt162.2.1 bt162.2.2.1 bt162.2.2.2.1 bt162.2.2.2.2.1))))))
theorem reloc_Apply.mono_l : ∀ k, (∀ y0 y1 y2 y3 y4 y5 y6, LeO (reloc_Apply.j0 k y0 y1 y2 y3 y4 y5 y6) (reloc_Apply.j0 (k + 1) y0 y1 y2 y3 y4 y5 y6))
  | 0 => fun _ _ _ _ _ _ _ r h => by simp [reloc_Apply.j0] at h
  | k + 1 => by
    have ih0 := reloc_Apply.mono_l k
    · intro y0 y1 y2 y3 y4 y5 y6
      unfold reloc_Apply.j0
      repeat' first
      | (with_reducible exact ih0 _ _ _ _ _ _ _)
      | (with_reducible exact isa_Encode.mono _ _ _ _ _ _)
      | (with_reducible exact reloc_blank.mono _ _ _)
      | (with_reducible exact LeO.refl _)
      | (with_reducible exact LeO.none _)
      | (with_reducible refine LeO.ite ?_ ?_)
      | (with_reducible refine LeO.bind ?_ (fun _ => ?_))
      | exact ih0 _ _ _ _ _ _ _
      | exact isa_Encode.mono _ _ _ _ _ _
      | exact reloc_blank.mono _ _ _
      | exact LeO.none _
      | refine LeO.ite ?_ ?_
      | refine LeO.bind ?_ (fun _ => ?_)
theorem reloc_Apply.mono : ∀ a0 a1 a2 k, LeO (reloc_Apply.f k a0 a1 a2) (reloc_Apply.f (k + 1) a0 a1 a2) := by
  intro a0 a1 a2 k
  have ih0 := reloc_Apply.mono_l k
  unfold reloc_Apply.f
  repeat' first
      | (with_reducible exact ih0 _ _ _ _ _ _ _)
      | (with_reducible exact isa_Encode.mono _ _ _ _ _ _)
      | (with_reducible exact reloc_blank.mono _ _ _)
      | (with_reducible exact LeO.refl _)
      | (with_reducible exact LeO.none _)
      | (with_reducible refine LeO.ite ?_ ?_)
      | (with_reducible refine LeO.bind ?_ (fun _ => ?_))
      | exact ih0 _ _ _ _ _ _ _
      | exact isa_Encode.mono _ _ _ _ _ _
      | exact reloc_blank.mono _ _ _
      | exact LeO.none _
      | refine LeO.ite ?_ ?_
      | refine LeO.bind ?_ (fun _ => ?_)

/-! ### link_Word: function 7 -/
def link_Word.j0 : Nat → List Int → Int → Int → Bool → ByteArray → List ByteArray → List ByteArray → List Int → List Int → List (S53) → Int → Int → Option (Int × Int)
  | 0, _, _, _, _, _, _, _, _, _, _, _, _ => none
  | k + 1, x2, x10, x14, x36, x174000, x174001, x174002, x174003, x174004, x174005, x175000, x175001 => if x36 = true then (some (x10, 0)) else (if 0 ≤ x14 then (if x14 < (x174005.length : Int) then ((reloc_Value.f k ((rd_T53 x174005 x14).f0) ((rd_T53 x174005 x14).f1) ((rd_T53 x174005 x14).f2) x175000 x175001 x2).bind fun bt183 => (if bt183.2 = 0 then ((reloc_Apply.f k x10 ((rd_T53 x174005 x14).f0) bt183.1).bind fun bt186 => (some (bt186.1, bt186.2))) else (some (0, bt183.2)))) else (none)) else (none))
def link_Word.f (k : Nat) (a0_0 : ByteArray) (l0_1 : List ByteArray) (l0_2 : List ByteArray) (l0_3 : List Int) (l0_4 : List Int) (l0_5 : List (S53)) (a1_0 : Int) (a1_1 : Int) (l2 : List Int) (a3 : Int) : Option (Int × Int) := (layout_Raw.f a0_0 l0_1 l0_2 l0_3 l0_4 l0_5 a3).bind fun t175 => ((layout_Spot.f a0_0 l0_1 l0_2 l0_3 l0_4 l0_5 a3).bind fun bt176 => ((idx_link_Word_1.f l0_5 bt176.2.1 bt176.1).bind fun t181 => (if bt176.2.2 = true then (link_Word.j0 k l2 t175 t181 (decide (t181 < 0)) a0_0 l0_1 l0_2 l0_3 l0_4 l0_5 a1_0 a1_1) else (link_Word.j0 k l2 t175 t181 true a0_0 l0_1 l0_2 l0_3 l0_4 l0_5 a1_0 a1_1))))
theorem link_Word.mono_l : ∀ k, (∀ y0 y1 y2 y3 y4 y5 y6 y7 y8 y9 y10 y11, LeO (link_Word.j0 k y0 y1 y2 y3 y4 y5 y6 y7 y8 y9 y10 y11) (link_Word.j0 (k + 1) y0 y1 y2 y3 y4 y5 y6 y7 y8 y9 y10 y11))
  | 0 => fun _ _ _ _ _ _ _ _ _ _ _ _ r h => by simp [link_Word.j0] at h
  | k + 1 => by
    have ih0 := link_Word.mono_l k
    · intro y0 y1 y2 y3 y4 y5 y6 y7 y8 y9 y10 y11
      unfold link_Word.j0
      repeat' first
      | (with_reducible exact ih0 _ _ _ _ _ _ _ _ _ _ _ _)
      | (with_reducible exact reloc_Apply.mono _ _ _ _)
      | (with_reducible exact reloc_Value.mono _ _ _ _ _ _ _)
      | (with_reducible exact LeO.refl _)
      | (with_reducible exact LeO.none _)
      | (with_reducible refine LeO.ite ?_ ?_)
      | (with_reducible refine LeO.bind ?_ (fun _ => ?_))
      | exact ih0 _ _ _ _ _ _ _ _ _ _ _ _
      | exact reloc_Apply.mono _ _ _ _
      | exact reloc_Value.mono _ _ _ _ _ _ _
      | exact LeO.none _
      | refine LeO.ite ?_ ?_
      | refine LeO.bind ?_ (fun _ => ?_)
theorem link_Word.mono : ∀ a0 a1 a2 a3 a4 a5 a6 a7 a8 a9 k, LeO (link_Word.f k a0 a1 a2 a3 a4 a5 a6 a7 a8 a9) (link_Word.f (k + 1) a0 a1 a2 a3 a4 a5 a6 a7 a8 a9) := by
  intro a0 a1 a2 a3 a4 a5 a6 a7 a8 a9 k
  have ih0 := link_Word.mono_l k
  unfold link_Word.f
  repeat' first
      | (with_reducible exact ih0 _ _ _ _ _ _ _ _ _ _ _ _)
      | (with_reducible exact reloc_Apply.mono _ _ _ _)
      | (with_reducible exact reloc_Value.mono _ _ _ _ _ _ _)
      | (with_reducible exact LeO.refl _)
      | (with_reducible exact LeO.none _)
      | (with_reducible refine LeO.ite ?_ ?_)
      | (with_reducible refine LeO.bind ?_ (fun _ => ?_))
      | exact ih0 _ _ _ _ _ _ _ _ _ _ _ _
      | exact reloc_Apply.mono _ _ _ _
      | exact reloc_Value.mono _ _ _ _ _ _ _
      | exact LeO.none _
      | refine LeO.ite ?_ ?_
      | refine LeO.bind ?_ (fun _ => ?_)
def link_Word.T6 : Bool × List (List Nat × List Nat) := (true, [([], []), ([0], [0]), ([], []), ([1, 2], [1, 2]), ([3], [3]), ([], []), ([], []), ([4, 5, 6], [4, 5, 6]), ([7], [7]), ([8], [8]), ([8], [8]), ([9, 7, 0, 1, 2, 3, 4, 5, 6, 7, 8, 9], [9]), ([10, 11, 0, 1, 2, 3, 4, 5, 6, 7, 8, 9, 10, 11], [10])])
def link_Word.B6 : List Nat := [0, 1, 0, 7, 15, 0, 0, 127, 255, 511, 511, 1023, 4095]
theorem link_Word.tab6 : rtab .any (opsOf Try.f7 6) = link_Word.T6 := by kernel_rfl
theorem link_Word.bits6 : waitsOk link_Word.T6.2 link_Word.B6 = true := by kernel_rfl

/-! ### layout_may: function 53 -/
def layout_may.f (a0 : Int) : Option (Bool) := if a0 ≥ 0 then (some (decide (a0 ≤ 256))) else (some false)

/-! ### layout_Pages: function 41 -/
def layout_Pages.f (a0_0 : Int) (a0_1 : Int) : Option (Int) := if (a0_0 == 0 && (a0_1 == 0)) = true then (some 0) else ((layout_may.f a0_0).bind fun t189 => (if t189 = true then ((layout_may.f a0_1).bind fun t190 => (if t190 = true then (some (wrap64 (a0_0 + a0_1))) else (some 0))) else (some 0)))

/-! ### layout_Words: function 26 -/
def layout_Words.f (a0_0 : Int) (a0_1 : Int) : Option (Int) := (layout_Pages.f a0_0 a0_1).bind fun t192 => (some (wrap64 (t192 * 16)))

/-! ### layout_Of: function 27 -/
def layout_Of.f (a0_0 : ByteArray) (l0_1 : List ByteArray) (l0_2 : List ByteArray) (l0_3 : List Int) (l0_4 : List Int) (l0_5 : List (S53)) : Option (Int × Int) := (layout_up.f (l0_3.length : Int)).bind fun t195 => ((layout_up.f (l0_4.length : Int)).bind fun t196 => (some (t195, t196)))
def layout_Of.T1 : Bool × List (List Nat × List Nat) := (true, [([], []), ([0], [0]), ([1], [1]), ([2], [2]), ([], []), ([4], [4]), ([5], [5]), ([6, 3], [6]), ([3, 7], [3, 7]), ([8, 7, 0, 1, 2, 3, 4, 5, 6, 7, 8], [8])])
def layout_Of.B1 : List Nat := [0, 1, 3, 7, 0, 16, 48, 127, 255, 511]
theorem layout_Of.tab1 : rtab .any (opsOf Try.f27 1) = layout_Of.T1 := by kernel_rfl
theorem layout_Of.bits1 : waitsOk layout_Of.T1.2 layout_Of.B1 = true := by kernel_rfl

/-! ### link_Image: function 10 -/
mutual
def link_Image.j0 : Nat → List Int → Bool → ByteArray → List ByteArray → List ByteArray → List Int → List Int → List (S53) → Int → Int → Option (List Int × Int)
  | 0, _, _, _, _, _, _, _, _, _, _ => none
  | k + 1, x2, x27, x198000, x198001, x198002, x198003, x198004, x198005, x199000, x199001 => if x27 = true then (some (([] : List Int), 5)) else ((layout_Of.f x198000 x198001 x198002 x198003 x198004 x198005).bind fun bt199 => ((layout_Words.f bt199.1 bt199.2).bind fun t201 => (link_Image.l0 k x2 ([] : List Int) t201 0 x198000 x198001 x198002 x198003 x198004 x198005 x199000 x199001)))
def link_Image.l0 : Nat → List Int → List Int → Int → Int → ByteArray → List ByteArray → List ByteArray → List Int → List Int → List (S53) → Int → Int → Option (List Int × Int)
  | 0, _, _, _, _, _, _, _, _, _, _, _, _ => none
  | k + 1, x2, x8, x30, x31, x198000, x198001, x198002, x198003, x198004, x198005, x199000, x199001 => if x31 < x30 then ((link_Word.f k x198000 x198001 x198002 x198003 x198004 x198005 x199000 x199001 x2 x31).bind fun bt202 => (if bt202.2 = 0 then (if x8.length < 35184372088832 then (link_Image.l0 k x2 (x8 ++ [bt202.1]) x30 (wrap64 (x31 + 1)) x198000 x198001 x198002 x198003 x198004 x198005 x199000 x199001) else (none)) else (some (([] : List Int), bt202.2)))) else (some (x8, 0))
end
def link_Image.f (k : Nat) (a0_0 : ByteArray) (l0_1 : List ByteArray) (l0_2 : List ByteArray) (l0_3 : List Int) (l0_4 : List Int) (l0_5 : List (S53)) (a1_0 : Int) (a1_1 : Int) (l2 : List Int) : Option (List Int × Int) := if (l0_3.length : Int) > 512 then (link_Image.j0 k l2 true a0_0 l0_1 l0_2 l0_3 l0_4 l0_5 a1_0 a1_1) else (if (l0_4.length : Int) > 128 then (link_Image.j0 k l2 true a0_0 l0_1 l0_2 l0_3 l0_4 l0_5 a1_0 a1_1) else (link_Image.j0 k l2 (decide ((l0_5.length : Int) > 256)) a0_0 l0_1 l0_2 l0_3 l0_4 l0_5 a1_0 a1_1))
theorem link_Image.mono_l : ∀ k, (∀ y0 y1 y2 y3 y4 y5 y6 y7 y8 y9, LeO (link_Image.j0 k y0 y1 y2 y3 y4 y5 y6 y7 y8 y9) (link_Image.j0 (k + 1) y0 y1 y2 y3 y4 y5 y6 y7 y8 y9)) ∧ (∀ y0 y1 y2 y3 y4 y5 y6 y7 y8 y9 y10 y11, LeO (link_Image.l0 k y0 y1 y2 y3 y4 y5 y6 y7 y8 y9 y10 y11) (link_Image.l0 (k + 1) y0 y1 y2 y3 y4 y5 y6 y7 y8 y9 y10 y11))
  | 0 => ⟨fun _ _ _ _ _ _ _ _ _ _ r h => by simp [link_Image.j0] at h, fun _ _ _ _ _ _ _ _ _ _ _ _ r h => by simp [link_Image.l0] at h⟩
  | k + 1 => by
    obtain ⟨ih0, ih1⟩ := link_Image.mono_l k
    refine ⟨?_, ?_⟩
    · intro y0 y1 y2 y3 y4 y5 y6 y7 y8 y9
      unfold link_Image.j0
      repeat' first
      | (with_reducible exact ih0 _ _ _ _ _ _ _ _ _ _)
      | (with_reducible exact ih1 _ _ _ _ _ _ _ _ _ _ _ _)
      | (with_reducible exact link_Word.mono _ _ _ _ _ _ _ _ _ _ _)
      | (with_reducible exact LeO.refl _)
      | (with_reducible exact LeO.none _)
      | (with_reducible refine LeO.ite ?_ ?_)
      | (with_reducible refine LeO.bind ?_ (fun _ => ?_))
      | exact ih0 _ _ _ _ _ _ _ _ _ _
      | exact ih1 _ _ _ _ _ _ _ _ _ _ _ _
      | exact link_Word.mono _ _ _ _ _ _ _ _ _ _ _
      | exact LeO.none _
      | refine LeO.ite ?_ ?_
      | refine LeO.bind ?_ (fun _ => ?_)
    · intro y0 y1 y2 y3 y4 y5 y6 y7 y8 y9 y10 y11
      unfold link_Image.l0
      repeat' first
      | (with_reducible exact ih0 _ _ _ _ _ _ _ _ _ _)
      | (with_reducible exact ih1 _ _ _ _ _ _ _ _ _ _ _ _)
      | (with_reducible exact link_Word.mono _ _ _ _ _ _ _ _ _ _ _)
      | (with_reducible exact LeO.refl _)
      | (with_reducible exact LeO.none _)
      | (with_reducible refine LeO.ite ?_ ?_)
      | (with_reducible refine LeO.bind ?_ (fun _ => ?_))
      | exact ih0 _ _ _ _ _ _ _ _ _ _
      | exact ih1 _ _ _ _ _ _ _ _ _ _ _ _
      | exact link_Word.mono _ _ _ _ _ _ _ _ _ _ _
      | exact LeO.none _
      | refine LeO.ite ?_ ?_
      | refine LeO.bind ?_ (fun _ => ?_)
theorem link_Image.mono : ∀ a0 a1 a2 a3 a4 a5 a6 a7 a8 k, LeO (link_Image.f k a0 a1 a2 a3 a4 a5 a6 a7 a8) (link_Image.f (k + 1) a0 a1 a2 a3 a4 a5 a6 a7 a8) := by
  intro a0 a1 a2 a3 a4 a5 a6 a7 a8 k
  obtain ⟨ih0, ih1⟩ := link_Image.mono_l k
  unfold link_Image.f
  repeat' first
      | (with_reducible exact ih0 _ _ _ _ _ _ _ _ _ _)
      | (with_reducible exact ih1 _ _ _ _ _ _ _ _ _ _ _ _)
      | (with_reducible exact link_Word.mono _ _ _ _ _ _ _ _ _ _ _)
      | (with_reducible exact LeO.refl _)
      | (with_reducible exact LeO.none _)
      | (with_reducible refine LeO.ite ?_ ?_)
      | (with_reducible refine LeO.bind ?_ (fun _ => ?_))
      | exact ih0 _ _ _ _ _ _ _ _ _ _
      | exact ih1 _ _ _ _ _ _ _ _ _ _ _ _
      | exact link_Word.mono _ _ _ _ _ _ _ _ _ _ _
      | exact LeO.none _
      | refine LeO.ite ?_ ?_
      | refine LeO.bind ?_ (fun _ => ?_)

/-! ### budwoodlaw16_awake: function 6 -/
def budwoodlaw16_awake.j0 : Nat → Bool → Option (Bool)
  | 0, _ => none
  | k + 1, x0 => some x0
def budwoodlaw16_awake.f (k : Nat)  : Option (Bool) := (some (([2281701376, 2415919104] : List Int) : List Int)).bind fun y207 => ((link_Image.f k (⟨#[]⟩ : ByteArray) ([] : List ByteArray) (([(⟨#[102]⟩ : ByteArray)] : List ByteArray)) y207 ([] : List Int) (([(⟨0, 0, 0⟩ : S53)] : List (S53))) 80 96 (([17] : List Int))).bind fun bt220 => (if bt220.2 = 0 then (if (bt220.1.length : Int) = 16 then (if 0 < (bt220.1.length : Int) then (if (rd bt220.1 0) = 2281701393 then (if 1 < (bt220.1.length : Int) then (if 1 < (y207.length : Int) then (if (rd bt220.1 1) = (rd y207 1) then (if 2 < (bt220.1.length : Int) then (if (rd bt220.1 2) = 0 then (budwoodlaw16_awake.j0 k true) else (budwoodlaw16_awake.j0 k false)) else (none)) else (budwoodlaw16_awake.j0 k false)) else (none)) else (none)) else (budwoodlaw16_awake.j0 k false)) else (none)) else (budwoodlaw16_awake.j0 k false)) else (budwoodlaw16_awake.j0 k false)))
theorem budwoodlaw16_awake.mono_l : ∀ k, (∀ y0, LeO (budwoodlaw16_awake.j0 k y0) (budwoodlaw16_awake.j0 (k + 1) y0))
  | 0 => fun _ r h => by simp [budwoodlaw16_awake.j0] at h
  | k + 1 => by
    have ih0 := budwoodlaw16_awake.mono_l k
    · intro y0
      unfold budwoodlaw16_awake.j0
      repeat' first
      | (with_reducible exact ih0 _)
      | (with_reducible exact link_Image.mono _ _ _ _ _ _ _ _ _ _)
      | (with_reducible exact LeO.refl _)
      | (with_reducible exact LeO.none _)
      | (with_reducible refine LeO.ite ?_ ?_)
      | (with_reducible refine LeO.bind ?_ (fun _ => ?_))
      | exact ih0 _
      | exact link_Image.mono _ _ _ _ _ _ _ _ _ _
      | exact LeO.none _
      | refine LeO.ite ?_ ?_
      | refine LeO.bind ?_ (fun _ => ?_)
theorem budwoodlaw16_awake.mono : ∀ k, LeO (budwoodlaw16_awake.f k ) (budwoodlaw16_awake.f (k + 1) ) := by
  intro  k
  have ih0 := budwoodlaw16_awake.mono_l k
  unfold budwoodlaw16_awake.f
  repeat' first
      | (with_reducible exact ih0 _)
      | (with_reducible exact link_Image.mono _ _ _ _ _ _ _ _ _ _)
      | (with_reducible exact LeO.refl _)
      | (with_reducible exact LeO.none _)
      | (with_reducible refine LeO.ite ?_ ?_)
      | (with_reducible refine LeO.bind ?_ (fun _ => ?_))
      | exact ih0 _
      | exact link_Image.mono _ _ _ _ _ _ _ _ _ _
      | exact LeO.none _
      | refine LeO.ite ?_ ?_
      | refine LeO.bind ?_ (fun _ => ?_)

/-! ### budwoodref12_pages: function 35 -/
def budwoodref12_pages.f (a0 : Int) : Option (Int) := some (wrap64 ((wrap64 (Int.tdiv a0 16)) + (mn 1 (Int.tmod a0 16))))

/-! ### budwoodref12_Spot: function 22 -/
def budwoodref12_Spot.j0 : Nat → Int → Int → Bool → ByteArray → List ByteArray → List ByteArray → List Int → List Int → List (S53) → Option (Bool × Int × Bool)
  | 0, _, _, _, _, _, _, _, _, _ => none
  | k + 1, x1, x7, x13, x229000, x229001, x229002, x229003, x229004, x229005 => if x13 = true then (some (true, x1, true)) else (if x1 ≥ x7 then (if (wrap64 (x1 - x7)) < (x229004.length : Int) then (some (false, wrap64 (x1 - x7), true)) else (some (false, 0, false))) else (some (false, 0, false)))
def budwoodref12_Spot.f (k : Nat) (a0_0 : ByteArray) (l0_1 : List ByteArray) (l0_2 : List ByteArray) (l0_3 : List Int) (l0_4 : List Int) (l0_5 : List (S53)) (a1 : Int) : Option (Bool × Int × Bool) := (budwoodref12_pages.f (l0_3.length : Int)).bind fun t229 => (if a1 ≥ 0 then (budwoodref12_Spot.j0 k a1 (wrap64 (16 * t229)) (decide (a1 < (l0_3.length : Int))) a0_0 l0_1 l0_2 l0_3 l0_4 l0_5) else (budwoodref12_Spot.j0 k a1 (wrap64 (16 * t229)) false a0_0 l0_1 l0_2 l0_3 l0_4 l0_5))
theorem budwoodref12_Spot.mono_l : ∀ k, (∀ y0 y1 y2 y3 y4 y5 y6 y7 y8, LeO (budwoodref12_Spot.j0 k y0 y1 y2 y3 y4 y5 y6 y7 y8) (budwoodref12_Spot.j0 (k + 1) y0 y1 y2 y3 y4 y5 y6 y7 y8))
  | 0 => fun _ _ _ _ _ _ _ _ _ r h => by simp [budwoodref12_Spot.j0] at h
  | k + 1 => by
    have ih0 := budwoodref12_Spot.mono_l k
    · intro y0 y1 y2 y3 y4 y5 y6 y7 y8
      unfold budwoodref12_Spot.j0
      repeat' first
      | (with_reducible exact ih0 _ _ _ _ _ _ _ _ _)
      | (with_reducible exact LeO.refl _)
      | (with_reducible exact LeO.none _)
      | (with_reducible refine LeO.ite ?_ ?_)
      | (with_reducible refine LeO.bind ?_ (fun _ => ?_))
      | exact ih0 _ _ _ _ _ _ _ _ _
      | exact LeO.none _
      | refine LeO.ite ?_ ?_
      | refine LeO.bind ?_ (fun _ => ?_)
theorem budwoodref12_Spot.mono : ∀ a0 a1 a2 a3 a4 a5 a6 k, LeO (budwoodref12_Spot.f k a0 a1 a2 a3 a4 a5 a6) (budwoodref12_Spot.f (k + 1) a0 a1 a2 a3 a4 a5 a6) := by
  intro a0 a1 a2 a3 a4 a5 a6 k
  have ih0 := budwoodref12_Spot.mono_l k
  unfold budwoodref12_Spot.f
  repeat' first
      | (with_reducible exact ih0 _ _ _ _ _ _ _ _ _)
      | (with_reducible exact LeO.refl _)
      | (with_reducible exact LeO.none _)
      | (with_reducible refine LeO.ite ?_ ?_)
      | (with_reducible refine LeO.bind ?_ (fun _ => ?_))
      | exact ih0 _ _ _ _ _ _ _ _ _
      | exact LeO.none _
      | refine LeO.ite ?_ ?_
      | refine LeO.bind ?_ (fun _ => ?_)

/-! ### budwoodref12_Raw: function 21 -/
def budwoodref12_Raw.f (k : Nat) (a0_0 : ByteArray) (l0_1 : List ByteArray) (l0_2 : List ByteArray) (l0_3 : List Int) (l0_4 : List Int) (l0_5 : List (S53)) (a1 : Int) : Option (Int) := (budwoodref12_Spot.f k a0_0 l0_1 l0_2 l0_3 l0_4 l0_5 a1).bind fun bt231 => (if bt231.2.2 = true then (if bt231.1 = true then (if 0 ≤ bt231.2.1 then (if bt231.2.1 < (l0_3.length : Int) then (some (rd l0_3 bt231.2.1)) else (none)) else (none)) else (if 0 ≤ bt231.2.1 then (if bt231.2.1 < (l0_4.length : Int) then (some (rd l0_4 bt231.2.1)) else (none)) else (none))) else (some 0))
theorem budwoodref12_Raw.mono : ∀ a0 a1 a2 a3 a4 a5 a6 k, LeO (budwoodref12_Raw.f k a0 a1 a2 a3 a4 a5 a6) (budwoodref12_Raw.f (k + 1) a0 a1 a2 a3 a4 a5 a6) := by
  intro a0 a1 a2 a3 a4 a5 a6 k
  unfold budwoodref12_Raw.f
  repeat' first
      | (with_reducible exact budwoodref12_Spot.mono _ _ _ _ _ _ _ _)
      | (with_reducible exact LeO.refl _)
      | (with_reducible exact LeO.none _)
      | (with_reducible refine LeO.ite ?_ ?_)
      | (with_reducible refine LeO.bind ?_ (fun _ => ?_))
      | exact budwoodref12_Spot.mono _ _ _ _ _ _ _ _
      | exact LeO.none _
      | refine LeO.ite ?_ ?_
      | refine LeO.bind ?_ (fun _ => ?_)

/-! ### budwoodref11_InCode: function 23 -/
def budwoodref11_InCode.f (a0 : Int) : Option (Bool) := if a0 = 0 then (some true) else (if a0 = 1 then (some true) else (if a0 = 2 then (some true) else (if a0 = 3 then (some true) else (some (a0 == 7)))))

/-! ### budwoodref15_Import: function 36 -/
def budwoodref15_Import.f (a0 : Int) : Option (Bool) := if a0 = 0 then (some true) else (if a0 = 1 then (some true) else (some (a0 == 4)))

/-! ### budwoodref15_Value: function 24 -/
def budwoodref15_Value.j0 : Nat → List Int → Bool → Int → Int → Int → Int → Int → Option (Int × Int)
  | 0, _, _, _, _, _, _, _ => none
  | k + 1, x2, x8, x237000, x237001, x237002, x238000, x238001 => if x8 = true then (some (0, 2)) else ((budwoodref15_Import.f x237000).bind fun t239 => (if t239 = true then (if 0 ≤ x237002 then (if x237002 < (x2.length : Int) then (some (rd x2 x237002, 0)) else (none)) else (none)) else (if x237000 = 2 then (some ((x238001 + ((x237002) % 4294967296)) % 4294967296, 0)) else (if x237000 = 5 then (some ((x238001 + ((x237002) % 4294967296)) % 4294967296, 0)) else (some ((x238000 + ((x237002) % 4294967296)) % 4294967296, 0))))))
def budwoodref15_Value.f (k : Nat) (a0_0 : Int) (a0_1 : Int) (a0_2 : Int) (a1_0 : Int) (a1_1 : Int) (l2 : List Int) : Option (Int × Int) := if a0_0 > 7 then (budwoodref15_Value.j0 k l2 true a0_0 a0_1 a0_2 a1_0 a1_1) else ((budwoodref15_Import.f a0_0).bind fun t238 => (if t238 = true then (budwoodref15_Value.j0 k l2 (decide ((wrap64 (a0_2)) ≥ (l2.length : Int))) a0_0 a0_1 a0_2 a1_0 a1_1) else (budwoodref15_Value.j0 k l2 false a0_0 a0_1 a0_2 a1_0 a1_1)))
theorem budwoodref15_Value.mono_l : ∀ k, (∀ y0 y1 y2 y3 y4 y5 y6, LeO (budwoodref15_Value.j0 k y0 y1 y2 y3 y4 y5 y6) (budwoodref15_Value.j0 (k + 1) y0 y1 y2 y3 y4 y5 y6))
  | 0 => fun _ _ _ _ _ _ _ r h => by simp [budwoodref15_Value.j0] at h
  | k + 1 => by
    have ih0 := budwoodref15_Value.mono_l k
    · intro y0 y1 y2 y3 y4 y5 y6
      unfold budwoodref15_Value.j0
      repeat' first
      | (with_reducible exact ih0 _ _ _ _ _ _ _)
      | (with_reducible exact LeO.refl _)
      | (with_reducible exact LeO.none _)
      | (with_reducible refine LeO.ite ?_ ?_)
      | (with_reducible refine LeO.bind ?_ (fun _ => ?_))
      | exact ih0 _ _ _ _ _ _ _
      | exact LeO.none _
      | refine LeO.ite ?_ ?_
      | refine LeO.bind ?_ (fun _ => ?_)
theorem budwoodref15_Value.mono : ∀ a0 a1 a2 a3 a4 a5 k, LeO (budwoodref15_Value.f k a0 a1 a2 a3 a4 a5) (budwoodref15_Value.f (k + 1) a0 a1 a2 a3 a4 a5) := by
  intro a0 a1 a2 a3 a4 a5 k
  have ih0 := budwoodref15_Value.mono_l k
  unfold budwoodref15_Value.f
  repeat' first
      | (with_reducible exact ih0 _ _ _ _ _ _ _)
      | (with_reducible exact LeO.refl _)
      | (with_reducible exact LeO.none _)
      | (with_reducible refine LeO.ite ?_ ?_)
      | (with_reducible refine LeO.bind ?_ (fun _ => ?_))
      | exact ih0 _ _ _ _ _ _ _
      | exact LeO.none _
      | refine LeO.ite ?_ ?_
      | refine LeO.bind ?_ (fun _ => ?_)

/-! ### budwoodref04_Uses: function 48 -/
mutual
def budwoodref04_Uses.j0 : Nat → Int → Bool → Option (Bool × Bool × Bool × Bool)
  | 0, _, _ => none
  | k + 1, x3, x7 => if x7 = true then (some (true, true, true, false)) else (if x3 = 11 then (budwoodref04_Uses.j1 k x3 (x3 == 11)) else (if x3 = 12 then (budwoodref04_Uses.j1 k x3 (x3 == 12)) else (if x3 = 13 then (budwoodref04_Uses.j1 k x3 (x3 == 13)) else (if x3 = 15 then (budwoodref04_Uses.j1 k x3 (x3 == 15)) else (budwoodref04_Uses.j1 k x3 (x3 == 16))))))
def budwoodref04_Uses.j1 : Nat → Int → Bool → Option (Bool × Bool × Bool × Bool)
  | 0, _, _ => none
  | k + 1, x3, x17 => if x17 = true then (some (true, true, false, true)) else (if x3 = 14 then (budwoodref04_Uses.j2 k x3 (x3 == 14)) else (if x3 = 17 then (budwoodref04_Uses.j2 k x3 (x3 == 17)) else (budwoodref04_Uses.j2 k x3 (x3 == 21))))
def budwoodref04_Uses.j2 : Nat → Int → Bool → Option (Bool × Bool × Bool × Bool)
  | 0, _, _ => none
  | k + 1, x3, x24 => if x24 = true then (some (false, false, false, true)) else (if x3 = 19 then (some (false, true, false, false)) else (some (false, false, false, false)))
end
def budwoodref04_Uses.f (k : Nat) (a0 : Int) : Option (Bool × Bool × Bool × Bool) := if a0 = 2 then (some (true, false, false, true)) else (if a0 = 3 then (budwoodref04_Uses.j0 k a0 (a0 == 3)) else (if a0 = 4 then (budwoodref04_Uses.j0 k a0 (a0 == 4)) else (if a0 = 5 then (budwoodref04_Uses.j0 k a0 (a0 == 5)) else (if a0 = 6 then (budwoodref04_Uses.j0 k a0 (a0 == 6)) else (if a0 = 7 then (budwoodref04_Uses.j0 k a0 (a0 == 7)) else (if a0 = 8 then (budwoodref04_Uses.j0 k a0 (a0 == 8)) else (if a0 = 9 then (budwoodref04_Uses.j0 k a0 (a0 == 9)) else (budwoodref04_Uses.j0 k a0 (a0 == 10)))))))))
theorem budwoodref04_Uses.mono_l : ∀ k, (∀ y0 y1, LeO (budwoodref04_Uses.j0 k y0 y1) (budwoodref04_Uses.j0 (k + 1) y0 y1)) ∧ (∀ y0 y1, LeO (budwoodref04_Uses.j1 k y0 y1) (budwoodref04_Uses.j1 (k + 1) y0 y1)) ∧ (∀ y0 y1, LeO (budwoodref04_Uses.j2 k y0 y1) (budwoodref04_Uses.j2 (k + 1) y0 y1))
  | 0 => ⟨fun _ _ r h => by simp [budwoodref04_Uses.j0] at h, fun _ _ r h => by simp [budwoodref04_Uses.j1] at h, fun _ _ r h => by simp [budwoodref04_Uses.j2] at h⟩
  | k + 1 => by
    obtain ⟨ih0, ih1, ih2⟩ := budwoodref04_Uses.mono_l k
    refine ⟨?_, ?_, ?_⟩
    · intro y0 y1
      unfold budwoodref04_Uses.j0
      repeat' first
      | (with_reducible exact ih0 _ _)
      | (with_reducible exact ih1 _ _)
      | (with_reducible exact ih2 _ _)
      | (with_reducible exact LeO.refl _)
      | (with_reducible exact LeO.none _)
      | (with_reducible refine LeO.ite ?_ ?_)
      | (with_reducible refine LeO.bind ?_ (fun _ => ?_))
      | exact ih0 _ _
      | exact ih1 _ _
      | exact ih2 _ _
      | exact LeO.none _
      | refine LeO.ite ?_ ?_
      | refine LeO.bind ?_ (fun _ => ?_)
    · intro y0 y1
      unfold budwoodref04_Uses.j1
      repeat' first
      | (with_reducible exact ih0 _ _)
      | (with_reducible exact ih1 _ _)
      | (with_reducible exact ih2 _ _)
      | (with_reducible exact LeO.refl _)
      | (with_reducible exact LeO.none _)
      | (with_reducible refine LeO.ite ?_ ?_)
      | (with_reducible refine LeO.bind ?_ (fun _ => ?_))
      | exact ih0 _ _
      | exact ih1 _ _
      | exact ih2 _ _
      | exact LeO.none _
      | refine LeO.ite ?_ ?_
      | refine LeO.bind ?_ (fun _ => ?_)
    · intro y0 y1
      unfold budwoodref04_Uses.j2
      repeat' first
      | (with_reducible exact ih0 _ _)
      | (with_reducible exact ih1 _ _)
      | (with_reducible exact ih2 _ _)
      | (with_reducible exact LeO.refl _)
      | (with_reducible exact LeO.none _)
      | (with_reducible refine LeO.ite ?_ ?_)
      | (with_reducible refine LeO.bind ?_ (fun _ => ?_))
      | exact ih0 _ _
      | exact ih1 _ _
      | exact ih2 _ _
      | exact LeO.none _
      | refine LeO.ite ?_ ?_
      | refine LeO.bind ?_ (fun _ => ?_)
theorem budwoodref04_Uses.mono : ∀ a0 k, LeO (budwoodref04_Uses.f k a0) (budwoodref04_Uses.f (k + 1) a0) := by
  intro a0 k
  obtain ⟨ih0, ih1, ih2⟩ := budwoodref04_Uses.mono_l k
  unfold budwoodref04_Uses.f
  repeat' first
      | (with_reducible exact ih0 _ _)
      | (with_reducible exact ih1 _ _)
      | (with_reducible exact ih2 _ _)
      | (with_reducible exact LeO.refl _)
      | (with_reducible exact LeO.none _)
      | (with_reducible refine LeO.ite ?_ ?_)
      | (with_reducible refine LeO.bind ?_ (fun _ => ?_))
      | exact ih0 _ _
      | exact ih1 _ _
      | exact ih2 _ _
      | exact LeO.none _
      | refine LeO.ite ?_ ?_
      | refine LeO.bind ?_ (fun _ => ?_)

/-! ### budwoodref01_Fits: function 62 -/
def budwoodref01_Fits.f (a0 : Int) (a1 : Int) : Option (Bool) := if a1 < 1 then (some false) else (if a1 > 32 then (some false) else (if 0 ≤ (IntKind.u64.wrap (wrap64 (a1 - 1))) then (if a0 ≥ (wrap64 (-(shl .i64 1 (IntKind.u64.wrap (wrap64 (a1 - 1)))))) then (some (decide (a0 ≤ (wrap64 ((shl .i64 1 (IntKind.u64.wrap (wrap64 (a1 - 1)))) - 1))))) else (some false)) else (none)))

/-! ### budwoodref04_Check: function 50 -/
mutual
def budwoodref04_Check.j0 : Nat → Bool → Int → Int → Int → Int → Int → Bool → Bool → Bool → Bool → Option (Int)
  | 0, _, _, _, _, _, _, _, _, _, _ => none
  | k + 1, x7, x243000, x243001, x243002, x243003, x243004, x248000, x248001, x248002, x248003 => if x7 = true then (some 10) else (if x248000 = true then (if x248001 = true then (if x248002 = true then (if x248003 = true then (budwoodref04_Check.j1 k false x243000 x243001 x243002 x243003 x243004) else (budwoodref04_Check.j1 k (x243004 != 0) x243000 x243001 x243002 x243003 x243004)) else (if x243003 = 0 then (if x248003 = true then (budwoodref04_Check.j1 k false x243000 x243001 x243002 x243003 x243004) else (budwoodref04_Check.j1 k (x243004 != 0) x243000 x243001 x243002 x243003 x243004)) else (budwoodref04_Check.j1 k true x243000 x243001 x243002 x243003 x243004))) else (if x243002 = 0 then (if x248002 = true then (if x248003 = true then (budwoodref04_Check.j1 k false x243000 x243001 x243002 x243003 x243004) else (budwoodref04_Check.j1 k (x243004 != 0) x243000 x243001 x243002 x243003 x243004)) else (if x243003 = 0 then (if x248003 = true then (budwoodref04_Check.j1 k false x243000 x243001 x243002 x243003 x243004) else (budwoodref04_Check.j1 k (x243004 != 0) x243000 x243001 x243002 x243003 x243004)) else (budwoodref04_Check.j1 k true x243000 x243001 x243002 x243003 x243004))) else (budwoodref04_Check.j1 k true x243000 x243001 x243002 x243003 x243004))) else (if x243001 = 0 then (if x248001 = true then (if x248002 = true then (if x248003 = true then (budwoodref04_Check.j1 k false x243000 x243001 x243002 x243003 x243004) else (budwoodref04_Check.j1 k (x243004 != 0) x243000 x243001 x243002 x243003 x243004)) else (if x243003 = 0 then (if x248003 = true then (budwoodref04_Check.j1 k false x243000 x243001 x243002 x243003 x243004) else (budwoodref04_Check.j1 k (x243004 != 0) x243000 x243001 x243002 x243003 x243004)) else (budwoodref04_Check.j1 k true x243000 x243001 x243002 x243003 x243004))) else (if x243002 = 0 then (if x248002 = true then (if x248003 = true then (budwoodref04_Check.j1 k false x243000 x243001 x243002 x243003 x243004) else (budwoodref04_Check.j1 k (x243004 != 0) x243000 x243001 x243002 x243003 x243004)) else (if x243003 = 0 then (if x248003 = true then (budwoodref04_Check.j1 k false x243000 x243001 x243002 x243003 x243004) else (budwoodref04_Check.j1 k (x243004 != 0) x243000 x243001 x243002 x243003 x243004)) else (budwoodref04_Check.j1 k true x243000 x243001 x243002 x243003 x243004))) else (budwoodref04_Check.j1 k true x243000 x243001 x243002 x243003 x243004))) else (budwoodref04_Check.j1 k true x243000 x243001 x243002 x243003 x243004)))
def budwoodref04_Check.j1 : Nat → Bool → Int → Int → Int → Int → Int → Option (Int)
  | 0, _, _, _, _, _, _ => none
  | k + 1, x26, x243000, x243001, x243002, x243003, x243004 => if x26 = true then (some 10) else ((budwoodref01_Fits.f (wrap64 (x243004)) 21).bind fun t248 => (if t248 = true then (if x243000 = 17 then (if x243004 < 0 then (some 11) else (if x243000 = 21 then (if x243004 > 63 then (some 11) else (some 0)) else (some 0))) else (if x243000 = 21 then (if x243004 < 0 then (some 11) else (if x243004 > 63 then (some 11) else (some 0))) else (some 0))) else (some 11)))
end
def budwoodref04_Check.f (k : Nat) (a0_0 : Int) (a0_1 : Int) (a0_2 : Int) (a0_3 : Int) (a0_4 : Int) : Option (Int) := (budwoodref04_Uses.f k a0_0).bind fun bt243 => (if a0_0 > 21 then (budwoodref04_Check.j0 k true a0_0 a0_1 a0_2 a0_3 a0_4 bt243.1 bt243.2.1 bt243.2.2.1 bt243.2.2.2) else (if a0_1 > 7 then (budwoodref04_Check.j0 k true a0_0 a0_1 a0_2 a0_3 a0_4 bt243.1 bt243.2.1 bt243.2.2.1 bt243.2.2.2) else (if a0_2 > 7 then (budwoodref04_Check.j0 k true a0_0 a0_1 a0_2 a0_3 a0_4 bt243.1 bt243.2.1 bt243.2.2.1 bt243.2.2.2) else (budwoodref04_Check.j0 k (decide (a0_3 > 7)) a0_0 a0_1 a0_2 a0_3 a0_4 bt243.1 bt243.2.1 bt243.2.2.1 bt243.2.2.2))))
theorem budwoodref04_Check.mono_l : ∀ k, (∀ y0 y1 y2 y3 y4 y5 y6 y7 y8 y9, LeO (budwoodref04_Check.j0 k y0 y1 y2 y3 y4 y5 y6 y7 y8 y9) (budwoodref04_Check.j0 (k + 1) y0 y1 y2 y3 y4 y5 y6 y7 y8 y9)) ∧ (∀ y0 y1 y2 y3 y4 y5, LeO (budwoodref04_Check.j1 k y0 y1 y2 y3 y4 y5) (budwoodref04_Check.j1 (k + 1) y0 y1 y2 y3 y4 y5))
  | 0 => ⟨fun _ _ _ _ _ _ _ _ _ _ r h => by simp [budwoodref04_Check.j0] at h, fun _ _ _ _ _ _ r h => by simp [budwoodref04_Check.j1] at h⟩
  | k + 1 => by
    obtain ⟨ih0, ih1⟩ := budwoodref04_Check.mono_l k
    refine ⟨?_, ?_⟩
    · intro y0 y1 y2 y3 y4 y5 y6 y7 y8 y9
      unfold budwoodref04_Check.j0
      repeat' first
      | (with_reducible exact ih0 _ _ _ _ _ _ _ _ _ _)
      | (with_reducible exact ih1 _ _ _ _ _ _)
      | (with_reducible exact budwoodref04_Uses.mono _ _)
      | (with_reducible exact LeO.refl _)
      | (with_reducible exact LeO.none _)
      | (with_reducible refine LeO.ite ?_ ?_)
      | (with_reducible refine LeO.bind ?_ (fun _ => ?_))
      | exact ih0 _ _ _ _ _ _ _ _ _ _
      | exact ih1 _ _ _ _ _ _
      | exact budwoodref04_Uses.mono _ _
      | exact LeO.none _
      | refine LeO.ite ?_ ?_
      | refine LeO.bind ?_ (fun _ => ?_)
    · intro y0 y1 y2 y3 y4 y5
      unfold budwoodref04_Check.j1
      repeat' first
      | (with_reducible exact ih0 _ _ _ _ _ _ _ _ _ _)
      | (with_reducible exact ih1 _ _ _ _ _ _)
      | (with_reducible exact budwoodref04_Uses.mono _ _)
      | (with_reducible exact LeO.refl _)
      | (with_reducible exact LeO.none _)
      | (with_reducible refine LeO.ite ?_ ?_)
      | (with_reducible refine LeO.bind ?_ (fun _ => ?_))
      | exact ih0 _ _ _ _ _ _ _ _ _ _
      | exact ih1 _ _ _ _ _ _
      | exact budwoodref04_Uses.mono _ _
      | exact LeO.none _
      | refine LeO.ite ?_ ?_
      | refine LeO.bind ?_ (fun _ => ?_)
theorem budwoodref04_Check.mono : ∀ a0 a1 a2 a3 a4 k, LeO (budwoodref04_Check.f k a0 a1 a2 a3 a4) (budwoodref04_Check.f (k + 1) a0 a1 a2 a3 a4) := by
  intro a0 a1 a2 a3 a4 k
  obtain ⟨ih0, ih1⟩ := budwoodref04_Check.mono_l k
  unfold budwoodref04_Check.f
  repeat' first
      | (with_reducible exact ih0 _ _ _ _ _ _ _ _ _ _)
      | (with_reducible exact ih1 _ _ _ _ _ _)
      | (with_reducible exact budwoodref04_Uses.mono _ _)
      | (with_reducible exact LeO.refl _)
      | (with_reducible exact LeO.none _)
      | (with_reducible refine LeO.ite ?_ ?_)
      | (with_reducible refine LeO.bind ?_ (fun _ => ?_))
      | exact ih0 _ _ _ _ _ _ _ _ _ _
      | exact ih1 _ _ _ _ _ _
      | exact budwoodref04_Uses.mono _ _
      | exact LeO.none _
      | refine LeO.ite ?_ ?_
      | refine LeO.bind ?_ (fun _ => ?_)

/-! ### budwoodref01_May: function 60 -/
def budwoodref01_May.f (a0 : Int) (a1 : Int) : Option (Bool) := if a0 ≥ 0 then (if a1 ≥ 0 then (if a0 ≤ 32 then (some (decide (a1 ≤ (wrap64 (32 - a0))))) else (some false)) else (some false)) else (some false)

/-! ### budwoodref01_bit: function 61 -/
def budwoodref01_bit.f (a0 : Int) (a1 : Int) : Option (Int) := if 0 ≤ (IntKind.u64.wrap (a1)) then (some (Go.bits .and .u32 (shr .u32 a0 (IntKind.u64.wrap (a1))) 1)) else (none)

/-! ### budwoodref01_With: function 51 -/
mutual
def budwoodref01_With.l0 : Nat → Int → Int → Int → Int → Int → Int → Option (Int)
  | 0, _, _, _, _, _, _ => none
  | k + 1, x0, x1, x2, x3, x9, x10 => if x10 < 32 then (if x10 ≥ x1 then (budwoodref01_With.j1 k x0 x1 x2 x3 x9 x10 (decide (x10 < (wrap64 (x1 + x2))))) else (budwoodref01_With.j1 k x0 x1 x2 x3 x9 x10 false)) else (some x9)
def budwoodref01_With.j1 : Nat → Int → Int → Int → Int → Int → Int → Bool → Option (Int)
  | 0, _, _, _, _, _, _, _ => none
  | k + 1, x0, x1, x2, x3, x9, x10, x29 => if x29 = true then ((budwoodref01_bit.f x3 (wrap64 (x10 - x1))).bind fun t250 => (if 0 ≤ (IntKind.u64.wrap (x10)) then (budwoodref01_With.l0 k x0 x1 x2 x3 (Go.bits .or .u32 x9 (shl .u32 t250 (IntKind.u64.wrap (x10)))) (wrap64 (x10 + 1))) else (none))) else ((budwoodref01_bit.f x0 x10).bind fun t251 => (if 0 ≤ (IntKind.u64.wrap (x10)) then (budwoodref01_With.l0 k x0 x1 x2 x3 (Go.bits .or .u32 x9 (shl .u32 t251 (IntKind.u64.wrap (x10)))) (wrap64 (x10 + 1))) else (none)))
end
def budwoodref01_With.f (k : Nat) (a0 : Int) (a1 : Int) (a2 : Int) (a3 : Int) : Option (Int) := (budwoodref01_May.f a1 a2).bind fun t249 => (if t249 = true then (budwoodref01_With.l0 k a0 a1 a2 a3 0 0) else (some a0))
theorem budwoodref01_With.mono_l : ∀ k, (∀ y0 y1 y2 y3 y4 y5, LeO (budwoodref01_With.l0 k y0 y1 y2 y3 y4 y5) (budwoodref01_With.l0 (k + 1) y0 y1 y2 y3 y4 y5)) ∧ (∀ y0 y1 y2 y3 y4 y5 y6, LeO (budwoodref01_With.j1 k y0 y1 y2 y3 y4 y5 y6) (budwoodref01_With.j1 (k + 1) y0 y1 y2 y3 y4 y5 y6))
  | 0 => ⟨fun _ _ _ _ _ _ r h => by simp [budwoodref01_With.l0] at h, fun _ _ _ _ _ _ _ r h => by simp [budwoodref01_With.j1] at h⟩
  | k + 1 => by
    obtain ⟨ih0, ih1⟩ := budwoodref01_With.mono_l k
    refine ⟨?_, ?_⟩
    · intro y0 y1 y2 y3 y4 y5
      unfold budwoodref01_With.l0
      repeat' first
      | (with_reducible exact ih0 _ _ _ _ _ _)
      | (with_reducible exact ih1 _ _ _ _ _ _ _)
      | (with_reducible exact LeO.refl _)
      | (with_reducible exact LeO.none _)
      | (with_reducible refine LeO.ite ?_ ?_)
      | (with_reducible refine LeO.bind ?_ (fun _ => ?_))
      | exact ih0 _ _ _ _ _ _
      | exact ih1 _ _ _ _ _ _ _
      | exact LeO.none _
      | refine LeO.ite ?_ ?_
      | refine LeO.bind ?_ (fun _ => ?_)
    · intro y0 y1 y2 y3 y4 y5 y6
      unfold budwoodref01_With.j1
      repeat' first
      | (with_reducible exact ih0 _ _ _ _ _ _)
      | (with_reducible exact ih1 _ _ _ _ _ _ _)
      | (with_reducible exact LeO.refl _)
      | (with_reducible exact LeO.none _)
      | (with_reducible refine LeO.ite ?_ ?_)
      | (with_reducible refine LeO.bind ?_ (fun _ => ?_))
      | exact ih0 _ _ _ _ _ _
      | exact ih1 _ _ _ _ _ _ _
      | exact LeO.none _
      | refine LeO.ite ?_ ?_
      | refine LeO.bind ?_ (fun _ => ?_)
theorem budwoodref01_With.mono : ∀ a0 a1 a2 a3 k, LeO (budwoodref01_With.f k a0 a1 a2 a3) (budwoodref01_With.f (k + 1) a0 a1 a2 a3) := by
  intro a0 a1 a2 a3 k
  obtain ⟨ih0, ih1⟩ := budwoodref01_With.mono_l k
  unfold budwoodref01_With.f
  repeat' first
      | (with_reducible exact ih0 _ _ _ _ _ _)
      | (with_reducible exact ih1 _ _ _ _ _ _ _)
      | (with_reducible exact LeO.refl _)
      | (with_reducible exact LeO.none _)
      | (with_reducible refine LeO.ite ?_ ?_)
      | (with_reducible refine LeO.bind ?_ (fun _ => ?_))
      | exact ih0 _ _ _ _ _ _
      | exact ih1 _ _ _ _ _ _ _
      | exact LeO.none _
      | refine LeO.ite ?_ ?_
      | refine LeO.bind ?_ (fun _ => ?_)

/-! ### budwoodref01_Bits: function 47 -/
def budwoodref01_Bits.l0 : Nat → Int → Int → Int → Int → Int → Option (Int)
  | 0, _, _, _, _, _ => none
  | k + 1, x0, x1, x2, x7, x8 => if x8 < x2 then ((budwoodref01_bit.f x0 (wrap64 (x1 + x8))).bind fun t253 => (if 0 ≤ (IntKind.u64.wrap (x8)) then (budwoodref01_Bits.l0 k x0 x1 x2 (Go.bits .or .u32 x7 (shl .u32 t253 (IntKind.u64.wrap (x8)))) (wrap64 (x8 + 1))) else (none))) else (some x7)
def budwoodref01_Bits.f (k : Nat) (a0 : Int) (a1 : Int) (a2 : Int) : Option (Int) := (budwoodref01_May.f a1 a2).bind fun t252 => (if t252 = true then (budwoodref01_Bits.l0 k a0 a1 a2 0 0) else (some 0))
theorem budwoodref01_Bits.mono_l : ∀ k, (∀ y0 y1 y2 y3 y4, LeO (budwoodref01_Bits.l0 k y0 y1 y2 y3 y4) (budwoodref01_Bits.l0 (k + 1) y0 y1 y2 y3 y4))
  | 0 => fun _ _ _ _ _ r h => by simp [budwoodref01_Bits.l0] at h
  | k + 1 => by
    have ih0 := budwoodref01_Bits.mono_l k
    · intro y0 y1 y2 y3 y4
      unfold budwoodref01_Bits.l0
      repeat' first
      | (with_reducible exact ih0 _ _ _ _ _)
      | (with_reducible exact LeO.refl _)
      | (with_reducible exact LeO.none _)
      | (with_reducible refine LeO.ite ?_ ?_)
      | (with_reducible refine LeO.bind ?_ (fun _ => ?_))
      | exact ih0 _ _ _ _ _
      | exact LeO.none _
      | refine LeO.ite ?_ ?_
      | refine LeO.bind ?_ (fun _ => ?_)
theorem budwoodref01_Bits.mono : ∀ a0 a1 a2 k, LeO (budwoodref01_Bits.f k a0 a1 a2) (budwoodref01_Bits.f (k + 1) a0 a1 a2) := by
  intro a0 a1 a2 k
  have ih0 := budwoodref01_Bits.mono_l k
  unfold budwoodref01_Bits.f
  repeat' first
      | (with_reducible exact ih0 _ _ _ _ _)
      | (with_reducible exact LeO.refl _)
      | (with_reducible exact LeO.none _)
      | (with_reducible refine LeO.ite ?_ ?_)
      | (with_reducible refine LeO.bind ?_ (fun _ => ?_))
      | exact ih0 _ _ _ _ _
      | exact LeO.none _
      | refine LeO.ite ?_ ?_
      | refine LeO.bind ?_ (fun _ => ?_)

/-! ### budwoodref01_Cut: function 52 -/
def budwoodref01_Cut.f (k : Nat) (a0 : Int) (a1 : Int) : Option (Int) := if a1 < 1 then (some 0) else ((budwoodref01_Bits.f k ((a0) % 4294967296) 0 (mn a1 32)).bind fun t254 => (some t254))
theorem budwoodref01_Cut.mono : ∀ a0 a1 k, LeO (budwoodref01_Cut.f k a0 a1) (budwoodref01_Cut.f (k + 1) a0 a1) := by
  intro a0 a1 k
  unfold budwoodref01_Cut.f
  repeat' first
      | (with_reducible exact budwoodref01_Bits.mono _ _ _ _)
      | (with_reducible exact LeO.refl _)
      | (with_reducible exact LeO.none _)
      | (with_reducible refine LeO.ite ?_ ?_)
      | (with_reducible refine LeO.bind ?_ (fun _ => ?_))
      | exact budwoodref01_Bits.mono _ _ _ _
      | exact LeO.none _
      | refine LeO.ite ?_ ?_
      | refine LeO.bind ?_ (fun _ => ?_)

/-! ### budwoodref04_Encode: function 40 -/
def budwoodref04_Encode.f (k : Nat) (a0_0 : Int) (a0_1 : Int) (a0_2 : Int) (a0_3 : Int) (a0_4 : Int) : Option (Int × Int) := (budwoodref04_Check.f k a0_0 a0_1 a0_2 a0_3 a0_4).bind fun t256 => (if t256 = 0 then ((budwoodref01_With.f k 0 27 5 ((a0_0) % 4294967296)).bind fun t257 => ((budwoodref01_With.f k t257 24 3 ((a0_1) % 4294967296)).bind fun t258 => ((budwoodref01_With.f k t258 21 3 ((a0_2) % 4294967296)).bind fun t259 => ((budwoodref04_Uses.f k a0_0).bind fun bt260 => (if bt260.2.2.1 = true then ((budwoodref01_With.f k t259 0 21 ((a0_3) % 4294967296)).bind fun t264 => (some (t264, 0))) else ((budwoodref01_Cut.f k a0_4 21).bind fun t265 => ((budwoodref01_With.f k t259 0 21 t265).bind fun t266 => (some (t266, 0))))))))) else (some (0, t256)))
theorem budwoodref04_Encode.mono : ∀ a0 a1 a2 a3 a4 k, LeO (budwoodref04_Encode.f k a0 a1 a2 a3 a4) (budwoodref04_Encode.f (k + 1) a0 a1 a2 a3 a4) := by
  intro a0 a1 a2 a3 a4 k
  unfold budwoodref04_Encode.f
  repeat' first
      | (with_reducible exact budwoodref01_Cut.mono _ _ _)
      | (with_reducible exact budwoodref01_With.mono _ _ _ _ _)
      | (with_reducible exact budwoodref04_Check.mono _ _ _ _ _ _)
      | (with_reducible exact budwoodref04_Uses.mono _ _)
      | (with_reducible exact LeO.refl _)
      | (with_reducible exact LeO.none _)
      | (with_reducible refine LeO.ite ?_ ?_)
      | (with_reducible refine LeO.bind ?_ (fun _ => ?_))
      | exact budwoodref01_Cut.mono _ _ _
      | exact budwoodref01_With.mono _ _ _ _ _
      | exact budwoodref04_Check.mono _ _ _ _ _ _
      | exact budwoodref04_Uses.mono _ _
      | exact LeO.none _
      | refine LeO.ite ?_ ?_
      | refine LeO.bind ?_ (fun _ => ?_)

/-! ### budwoodref01_Signed: function 49 -/
def budwoodref01_Signed.j0 : Nat → Int → Int → Bool → Option (Int)
  | 0, _, _, _ => none
  | k + 1, x0, x1, x11 => if x11 = true then (some 0) else ((budwoodref01_Bits.f k x0 0 x1).bind fun t267 => ((budwoodref01_bit.f x0 (wrap64 (x1 - 1))).bind fun t268 => (if t268 = 1 then (if 0 ≤ (IntKind.u64.wrap (x1)) then (some (wrap32 (wrap64 ((wrap64 (t267)) - (shl .i64 1 (IntKind.u64.wrap (x1))))))) else (none)) else (some (wrap32 (wrap64 (t267)))))))
def budwoodref01_Signed.f (k : Nat) (a0 : Int) (a1 : Int) : Option (Int) := if a1 < 1 then (budwoodref01_Signed.j0 k a0 a1 true) else (budwoodref01_Signed.j0 k a0 a1 (decide (a1 > 32)))
theorem budwoodref01_Signed.mono_l : ∀ k, (∀ y0 y1 y2, LeO (budwoodref01_Signed.j0 k y0 y1 y2) (budwoodref01_Signed.j0 (k + 1) y0 y1 y2))
  | 0 => fun _ _ _ r h => by simp [budwoodref01_Signed.j0] at h
  | k + 1 => by
    have ih0 := budwoodref01_Signed.mono_l k
    · intro y0 y1 y2
      unfold budwoodref01_Signed.j0
      repeat' first
      | (with_reducible exact ih0 _ _ _)
      | (with_reducible exact budwoodref01_Bits.mono _ _ _ _)
      | (with_reducible exact LeO.refl _)
      | (with_reducible exact LeO.none _)
      | (with_reducible refine LeO.ite ?_ ?_)
      | (with_reducible refine LeO.bind ?_ (fun _ => ?_))
      | exact ih0 _ _ _
      | exact budwoodref01_Bits.mono _ _ _ _
      | exact LeO.none _
      | refine LeO.ite ?_ ?_
      | refine LeO.bind ?_ (fun _ => ?_)
theorem budwoodref01_Signed.mono : ∀ a0 a1 k, LeO (budwoodref01_Signed.f k a0 a1) (budwoodref01_Signed.f (k + 1) a0 a1) := by
  intro a0 a1 k
  have ih0 := budwoodref01_Signed.mono_l k
  unfold budwoodref01_Signed.f
  repeat' first
      | (with_reducible exact ih0 _ _ _)
      | (with_reducible exact budwoodref01_Bits.mono _ _ _ _)
      | (with_reducible exact LeO.refl _)
      | (with_reducible exact LeO.none _)
      | (with_reducible refine LeO.ite ?_ ?_)
      | (with_reducible refine LeO.bind ?_ (fun _ => ?_))
      | exact ih0 _ _ _
      | exact budwoodref01_Bits.mono _ _ _ _
      | exact LeO.none _
      | refine LeO.ite ?_ ?_
      | refine LeO.bind ?_ (fun _ => ?_)

/-! ### budwoodref04_Decode: function 37 -/
def budwoodref04_Decode.f (k : Nat) (a0 : Int) : Option (Int × Int × Int × Int × Int × Int) := (budwoodref01_Bits.f k a0 27 5).bind fun t270 => ((budwoodref01_Bits.f k a0 24 3).bind fun t271 => ((budwoodref01_Bits.f k a0 21 3).bind fun t272 => ((budwoodref04_Uses.f k ((t270) % 256)).bind fun bt274 => (if bt274.2.2.1 = true then ((budwoodref01_Bits.f k a0 0 3).bind fun t278 => ((budwoodref04_Encode.f k ((t270) % 256) ((t271) % 256) ((t272) % 256) ((t278) % 256) 0).bind fun bt279 => (if bt279.2 = 0 then (if bt279.1 = a0 then (some ((t270) % 256, (t271) % 256, (t272) % 256, (t278) % 256, 0, 0)) else (some (0, 0, 0, 0, 0, 10))) else (some (0, 0, 0, 0, 0, 10))))) else ((budwoodref01_Signed.f k a0 21).bind fun t281 => ((budwoodref04_Encode.f k ((t270) % 256) ((t271) % 256) ((t272) % 256) 0 t281).bind fun bt282 => (if bt282.2 = 0 then (if bt282.1 = a0 then (some ((t270) % 256, (t271) % 256, (t272) % 256, 0, t281, 0)) else (some (0, 0, 0, 0, 0, 10))) else (some (0, 0, 0, 0, 0, 10)))))))))
theorem budwoodref04_Decode.mono : ∀ a0 k, LeO (budwoodref04_Decode.f k a0) (budwoodref04_Decode.f (k + 1) a0) := by
  intro a0 k
  unfold budwoodref04_Decode.f
  repeat' first
      | (with_reducible exact budwoodref01_Bits.mono _ _ _ _)
      | (with_reducible exact budwoodref01_Signed.mono _ _ _)
      | (with_reducible exact budwoodref04_Encode.mono _ _ _ _ _ _)
      | (with_reducible exact budwoodref04_Uses.mono _ _)
      | (with_reducible exact LeO.refl _)
      | (with_reducible exact LeO.none _)
      | (with_reducible refine LeO.ite ?_ ?_)
      | (with_reducible refine LeO.bind ?_ (fun _ => ?_))
      | exact budwoodref01_Bits.mono _ _ _ _
      | exact budwoodref01_Signed.mono _ _ _
      | exact budwoodref04_Encode.mono _ _ _ _ _ _
      | exact budwoodref04_Uses.mono _ _
      | exact LeO.none _
      | refine LeO.ite ?_ ?_
      | refine LeO.bind ?_ (fun _ => ?_)

/-! ### budwoodref15_op: function 38 -/
def budwoodref15_op.f (a0 : Int) : Option (Int) := if a0 = 0 then (some 17) else (if a0 = 7 then (some 17) else (some 2))

/-! ### budwoodref15_Reach: function 39 -/
def budwoodref15_Reach.f (a0 : Int) : Option (Int) := if a0 > 7 then (some 0) else ((budwoodref11_InCode.f a0).bind fun t284 => (if t284 = true then (some 1048575) else (some 4294967295)))

/-! ### budwoodref15_Apply: function 25 -/
def budwoodref15_Apply.j0 : Nat → Int → Int → Bool → Int → Int → Int → Int → Int → Option (Int × Int)
  | 0, _, _, _, _, _, _, _, _ => none
  | k + 1, x1, x2, x23, x293000, x293001, x293002, x293003, x293004 => if x23 = true then (some (0, 10)) else ((budwoodref15_Reach.f x1).bind fun t294 => (if x2 > t294 then (some (0, 30)) else ((budwoodref04_Encode.f k x293000 x293001 x293002 x293003 (wrap32 (x2))).bind fun bt295 => (some (bt295.1, bt295.2)))))
def budwoodref15_Apply.f (k : Nat) (a0 : Int) (a1 : Int) (a2 : Int) : Option (Int × Int) := if a1 > 7 then (some (0, 2)) else ((budwoodref11_InCode.f a1).bind fun t285 => (if t285 = true then ((budwoodref04_Decode.f k a0).bind fun bt286 => (if bt286.2.2.2.2.2 = 0 then ((budwoodref15_op.f a1).bind fun t293 => (if bt286.1 = t293 then (budwoodref15_Apply.j0 k a1 a2 (bt286.2.2.2.2.1 != 0) bt286.1 bt286.2.1 bt286.2.2.1 bt286.2.2.2.1 bt286.2.2.2.2.1) else (budwoodref15_Apply.j0 k a1 a2 true bt286.1 bt286.2.1 bt286.2.2.1 bt286.2.2.2.1 bt286.2.2.2.2.1))) else (budwoodref15_Apply.j0 k a1 a2 true bt286.1 bt286.2.1 bt286.2.2.1 bt286.2.2.2.1 bt286.2.2.2.2.1))) else (some (a2, 0))))
theorem budwoodref15_Apply.mono_l : ∀ k, (∀ y0 y1 y2 y3 y4 y5 y6 y7, LeO (budwoodref15_Apply.j0 k y0 y1 y2 y3 y4 y5 y6 y7) (budwoodref15_Apply.j0 (k + 1) y0 y1 y2 y3 y4 y5 y6 y7))
  | 0 => fun _ _ _ _ _ _ _ _ r h => by simp [budwoodref15_Apply.j0] at h
  | k + 1 => by
    have ih0 := budwoodref15_Apply.mono_l k
    · intro y0 y1 y2 y3 y4 y5 y6 y7
      unfold budwoodref15_Apply.j0
      repeat' first
      | (with_reducible exact ih0 _ _ _ _ _ _ _ _)
      | (with_reducible exact budwoodref04_Decode.mono _ _)
      | (with_reducible exact budwoodref04_Encode.mono _ _ _ _ _ _)
      | (with_reducible exact LeO.refl _)
      | (with_reducible exact LeO.none _)
      | (with_reducible refine LeO.ite ?_ ?_)
      | (with_reducible refine LeO.bind ?_ (fun _ => ?_))
      | exact ih0 _ _ _ _ _ _ _ _
      | exact budwoodref04_Decode.mono _ _
      | exact budwoodref04_Encode.mono _ _ _ _ _ _
      | exact LeO.none _
      | refine LeO.ite ?_ ?_
      | refine LeO.bind ?_ (fun _ => ?_)
theorem budwoodref15_Apply.mono : ∀ a0 a1 a2 k, LeO (budwoodref15_Apply.f k a0 a1 a2) (budwoodref15_Apply.f (k + 1) a0 a1 a2) := by
  intro a0 a1 a2 k
  have ih0 := budwoodref15_Apply.mono_l k
  unfold budwoodref15_Apply.f
  repeat' first
      | (with_reducible exact ih0 _ _ _ _ _ _ _ _)
      | (with_reducible exact budwoodref04_Decode.mono _ _)
      | (with_reducible exact budwoodref04_Encode.mono _ _ _ _ _ _)
      | (with_reducible exact LeO.refl _)
      | (with_reducible exact LeO.none _)
      | (with_reducible refine LeO.ite ?_ ?_)
      | (with_reducible refine LeO.bind ?_ (fun _ => ?_))
      | exact ih0 _ _ _ _ _ _ _ _
      | exact budwoodref04_Decode.mono _ _
      | exact budwoodref04_Encode.mono _ _ _ _ _ _
      | exact LeO.none _
      | refine LeO.ite ?_ ?_
      | refine LeO.bind ?_ (fun _ => ?_)

/-! ### budwoodref16_Word: function 8 -/
mutual
def budwoodref16_Word.l0 : Nat → List Int → Int → Bool → Int → Bool → Int → ByteArray → List ByteArray → List ByteArray → List Int → List Int → List (S53) → Int → Int → Option (Int × Int)
  | 0, _, _, _, _, _, _, _, _, _, _, _, _, _, _ => none
  | k + 1, x2, x10, x11, x12, x13, x14, x298000, x298001, x298002, x298003, x298004, x298005, x299000, x299001 => if x14 < (x298005.length : Int) then (budwoodref16_Word.j1 k x2 x10 x11 x12 x13 x14 x13 x298000 x298001 x298002 x298003 x298004 x298005 x299000 x299001) else (budwoodref16_Word.j1 k x2 x10 x11 x12 x13 x14 false x298000 x298001 x298002 x298003 x298004 x298005 x299000 x299001)
def budwoodref16_Word.j1 : Nat → List Int → Int → Bool → Int → Bool → Int → Bool → ByteArray → List ByteArray → List ByteArray → List Int → List Int → List (S53) → Int → Int → Option (Int × Int)
  | 0, _, _, _, _, _, _, _, _, _, _, _, _, _, _, _ => none
  | k + 1, x2, x10, x11, x12, x13, x14, x35, x298000, x298001, x298002, x298003, x298004, x298005, x299000, x299001 => if x35 = true then (if 0 ≤ x14 then (if x14 < (x298005.length : Int) then (if (wrap64 ((rd_T53 x298005 x14).f1)) = x12 then ((budwoodref11_InCode.f ((rd_T53 x298005 x14).f0)).bind fun t305 => (if (t305 != x11) = true then (budwoodref16_Word.j2 k x2 x10 x11 x12 x13 x14 true x298000 x298001 x298002 x298003 x298004 x298005 x299000 x299001 ((rd_T53 x298005 x14).f0) ((rd_T53 x298005 x14).f1) ((rd_T53 x298005 x14).f2)) else (budwoodref16_Word.j2 k x2 x10 x11 x12 x13 x14 (decide (((rd_T53 x298005 x14).f0) > 7)) x298000 x298001 x298002 x298003 x298004 x298005 x299000 x299001 ((rd_T53 x298005 x14).f0) ((rd_T53 x298005 x14).f1) ((rd_T53 x298005 x14).f2)))) else (budwoodref16_Word.j2 k x2 x10 x11 x12 x13 x14 true x298000 x298001 x298002 x298003 x298004 x298005 x299000 x299001 ((rd_T53 x298005 x14).f0) ((rd_T53 x298005 x14).f1) ((rd_T53 x298005 x14).f2))) else (none)) else (none)) else (some (x10, 0))
def budwoodref16_Word.j2 : Nat → List Int → Int → Bool → Int → Bool → Int → Bool → ByteArray → List ByteArray → List ByteArray → List Int → List Int → List (S53) → Int → Int → Int → Int → Int → Option (Int × Int)
  | 0, _, _, _, _, _, _, _, _, _, _, _, _, _, _, _, _, _, _ => none
  | k + 1, x2, x10, x11, x12, x13, x14, x59, x298000, x298001, x298002, x298003, x298004, x298005, x299000, x299001, x305000, x305001, x305002 => if x59 = true then (budwoodref16_Word.l0 k x2 x10 x11 x12 x13 (wrap64 (x14 + 1)) x298000 x298001 x298002 x298003 x298004 x298005 x299000 x299001) else ((budwoodref15_Value.f k x305000 x305001 x305002 x299000 x299001 x2).bind fun bt306 => (if bt306.2 = 0 then ((budwoodref15_Apply.f k x10 x305000 bt306.1).bind fun bt308 => (some (bt308.1, bt308.2))) else (some (0, bt306.2))))
end
def budwoodref16_Word.f (k : Nat) (a0_0 : ByteArray) (l0_1 : List ByteArray) (l0_2 : List ByteArray) (l0_3 : List Int) (l0_4 : List Int) (l0_5 : List (S53)) (a1_0 : Int) (a1_1 : Int) (l2 : List Int) (a3 : Int) : Option (Int × Int) := (budwoodref12_Raw.f k a0_0 l0_1 l0_2 l0_3 l0_4 l0_5 a3).bind fun t299 => ((budwoodref12_Spot.f k a0_0 l0_1 l0_2 l0_3 l0_4 l0_5 a3).bind fun bt300 => (budwoodref16_Word.l0 k l2 t299 bt300.1 bt300.2.1 bt300.2.2 0 a0_0 l0_1 l0_2 l0_3 l0_4 l0_5 a1_0 a1_1))
theorem budwoodref16_Word.mono_l : ∀ k, (∀ y0 y1 y2 y3 y4 y5 y6 y7 y8 y9 y10 y11 y12 y13, LeO (budwoodref16_Word.l0 k y0 y1 y2 y3 y4 y5 y6 y7 y8 y9 y10 y11 y12 y13) (budwoodref16_Word.l0 (k + 1) y0 y1 y2 y3 y4 y5 y6 y7 y8 y9 y10 y11 y12 y13)) ∧ (∀ y0 y1 y2 y3 y4 y5 y6 y7 y8 y9 y10 y11 y12 y13 y14, LeO (budwoodref16_Word.j1 k y0 y1 y2 y3 y4 y5 y6 y7 y8 y9 y10 y11 y12 y13 y14) (budwoodref16_Word.j1 (k + 1) y0 y1 y2 y3 y4 y5 y6 y7 y8 y9 y10 y11 y12 y13 y14)) ∧ (∀ y0 y1 y2 y3 y4 y5 y6 y7 y8 y9 y10 y11 y12 y13 y14 y15 y16 y17, LeO (budwoodref16_Word.j2 k y0 y1 y2 y3 y4 y5 y6 y7 y8 y9 y10 y11 y12 y13 y14 y15 y16 y17) (budwoodref16_Word.j2 (k + 1) y0 y1 y2 y3 y4 y5 y6 y7 y8 y9 y10 y11 y12 y13 y14 y15 y16 y17))
  | 0 => ⟨fun _ _ _ _ _ _ _ _ _ _ _ _ _ _ r h => by simp [budwoodref16_Word.l0] at h, fun _ _ _ _ _ _ _ _ _ _ _ _ _ _ _ r h => by simp [budwoodref16_Word.j1] at h, fun _ _ _ _ _ _ _ _ _ _ _ _ _ _ _ _ _ _ r h => by simp [budwoodref16_Word.j2] at h⟩
  | k + 1 => by
    obtain ⟨ih0, ih1, ih2⟩ := budwoodref16_Word.mono_l k
    refine ⟨?_, ?_, ?_⟩
    · intro y0 y1 y2 y3 y4 y5 y6 y7 y8 y9 y10 y11 y12 y13
      unfold budwoodref16_Word.l0
      repeat' first
      | (with_reducible exact ih0 _ _ _ _ _ _ _ _ _ _ _ _ _ _)
      | (with_reducible exact ih1 _ _ _ _ _ _ _ _ _ _ _ _ _ _ _)
      | (with_reducible exact ih2 _ _ _ _ _ _ _ _ _ _ _ _ _ _ _ _ _ _)
      | (with_reducible exact budwoodref12_Raw.mono _ _ _ _ _ _ _ _)
      | (with_reducible exact budwoodref12_Spot.mono _ _ _ _ _ _ _ _)
      | (with_reducible exact budwoodref15_Apply.mono _ _ _ _)
      | (with_reducible exact budwoodref15_Value.mono _ _ _ _ _ _ _)
      | (with_reducible exact LeO.refl _)
      | (with_reducible exact LeO.none _)
      | (with_reducible refine LeO.ite ?_ ?_)
      | (with_reducible refine LeO.bind ?_ (fun _ => ?_))
      | exact ih0 _ _ _ _ _ _ _ _ _ _ _ _ _ _
      | exact ih1 _ _ _ _ _ _ _ _ _ _ _ _ _ _ _
      | exact ih2 _ _ _ _ _ _ _ _ _ _ _ _ _ _ _ _ _ _
      | exact budwoodref12_Raw.mono _ _ _ _ _ _ _ _
      | exact budwoodref12_Spot.mono _ _ _ _ _ _ _ _
      | exact budwoodref15_Apply.mono _ _ _ _
      | exact budwoodref15_Value.mono _ _ _ _ _ _ _
      | exact LeO.none _
      | refine LeO.ite ?_ ?_
      | refine LeO.bind ?_ (fun _ => ?_)
    · intro y0 y1 y2 y3 y4 y5 y6 y7 y8 y9 y10 y11 y12 y13 y14
      unfold budwoodref16_Word.j1
      repeat' first
      | (with_reducible exact ih0 _ _ _ _ _ _ _ _ _ _ _ _ _ _)
      | (with_reducible exact ih1 _ _ _ _ _ _ _ _ _ _ _ _ _ _ _)
      | (with_reducible exact ih2 _ _ _ _ _ _ _ _ _ _ _ _ _ _ _ _ _ _)
      | (with_reducible exact budwoodref12_Raw.mono _ _ _ _ _ _ _ _)
      | (with_reducible exact budwoodref12_Spot.mono _ _ _ _ _ _ _ _)
      | (with_reducible exact budwoodref15_Apply.mono _ _ _ _)
      | (with_reducible exact budwoodref15_Value.mono _ _ _ _ _ _ _)
      | (with_reducible exact LeO.refl _)
      | (with_reducible exact LeO.none _)
      | (with_reducible refine LeO.ite ?_ ?_)
      | (with_reducible refine LeO.bind ?_ (fun _ => ?_))
      | exact ih0 _ _ _ _ _ _ _ _ _ _ _ _ _ _
      | exact ih1 _ _ _ _ _ _ _ _ _ _ _ _ _ _ _
      | exact ih2 _ _ _ _ _ _ _ _ _ _ _ _ _ _ _ _ _ _
      | exact budwoodref12_Raw.mono _ _ _ _ _ _ _ _
      | exact budwoodref12_Spot.mono _ _ _ _ _ _ _ _
      | exact budwoodref15_Apply.mono _ _ _ _
      | exact budwoodref15_Value.mono _ _ _ _ _ _ _
      | exact LeO.none _
      | refine LeO.ite ?_ ?_
      | refine LeO.bind ?_ (fun _ => ?_)
    · intro y0 y1 y2 y3 y4 y5 y6 y7 y8 y9 y10 y11 y12 y13 y14 y15 y16 y17
      unfold budwoodref16_Word.j2
      repeat' first
      | (with_reducible exact ih0 _ _ _ _ _ _ _ _ _ _ _ _ _ _)
      | (with_reducible exact ih1 _ _ _ _ _ _ _ _ _ _ _ _ _ _ _)
      | (with_reducible exact ih2 _ _ _ _ _ _ _ _ _ _ _ _ _ _ _ _ _ _)
      | (with_reducible exact budwoodref12_Raw.mono _ _ _ _ _ _ _ _)
      | (with_reducible exact budwoodref12_Spot.mono _ _ _ _ _ _ _ _)
      | (with_reducible exact budwoodref15_Apply.mono _ _ _ _)
      | (with_reducible exact budwoodref15_Value.mono _ _ _ _ _ _ _)
      | (with_reducible exact LeO.refl _)
      | (with_reducible exact LeO.none _)
      | (with_reducible refine LeO.ite ?_ ?_)
      | (with_reducible refine LeO.bind ?_ (fun _ => ?_))
      | exact ih0 _ _ _ _ _ _ _ _ _ _ _ _ _ _
      | exact ih1 _ _ _ _ _ _ _ _ _ _ _ _ _ _ _
      | exact ih2 _ _ _ _ _ _ _ _ _ _ _ _ _ _ _ _ _ _
      | exact budwoodref12_Raw.mono _ _ _ _ _ _ _ _
      | exact budwoodref12_Spot.mono _ _ _ _ _ _ _ _
      | exact budwoodref15_Apply.mono _ _ _ _
      | exact budwoodref15_Value.mono _ _ _ _ _ _ _
      | exact LeO.none _
      | refine LeO.ite ?_ ?_
      | refine LeO.bind ?_ (fun _ => ?_)
theorem budwoodref16_Word.mono : ∀ a0 a1 a2 a3 a4 a5 a6 a7 a8 a9 k, LeO (budwoodref16_Word.f k a0 a1 a2 a3 a4 a5 a6 a7 a8 a9) (budwoodref16_Word.f (k + 1) a0 a1 a2 a3 a4 a5 a6 a7 a8 a9) := by
  intro a0 a1 a2 a3 a4 a5 a6 a7 a8 a9 k
  obtain ⟨ih0, ih1, ih2⟩ := budwoodref16_Word.mono_l k
  unfold budwoodref16_Word.f
  repeat' first
      | (with_reducible exact ih0 _ _ _ _ _ _ _ _ _ _ _ _ _ _)
      | (with_reducible exact ih1 _ _ _ _ _ _ _ _ _ _ _ _ _ _ _)
      | (with_reducible exact ih2 _ _ _ _ _ _ _ _ _ _ _ _ _ _ _ _ _ _)
      | (with_reducible exact budwoodref12_Raw.mono _ _ _ _ _ _ _ _)
      | (with_reducible exact budwoodref12_Spot.mono _ _ _ _ _ _ _ _)
      | (with_reducible exact budwoodref15_Apply.mono _ _ _ _)
      | (with_reducible exact budwoodref15_Value.mono _ _ _ _ _ _ _)
      | (with_reducible exact LeO.refl _)
      | (with_reducible exact LeO.none _)
      | (with_reducible refine LeO.ite ?_ ?_)
      | (with_reducible refine LeO.bind ?_ (fun _ => ?_))
      | exact ih0 _ _ _ _ _ _ _ _ _ _ _ _ _ _
      | exact ih1 _ _ _ _ _ _ _ _ _ _ _ _ _ _ _
      | exact ih2 _ _ _ _ _ _ _ _ _ _ _ _ _ _ _ _ _ _
      | exact budwoodref12_Raw.mono _ _ _ _ _ _ _ _
      | exact budwoodref12_Spot.mono _ _ _ _ _ _ _ _
      | exact budwoodref15_Apply.mono _ _ _ _
      | exact budwoodref15_Value.mono _ _ _ _ _ _ _
      | exact LeO.none _
      | refine LeO.ite ?_ ?_
      | refine LeO.bind ?_ (fun _ => ?_)

/-! ### budwoodlaw16_LinkWords: function 3 -/
def budwoodlaw16_LinkWords.f (k : Nat) (a0_0 : ByteArray) (l0_1 : List ByteArray) (l0_2 : List ByteArray) (l0_3 : List Int) (l0_4 : List Int) (l0_5 : List (S53)) (a1_0 : Int) (a1_1 : Int) (l1_2 : List Int) (a2 : Int) : Option (Bool) := (budwoodref10_Size.f k a0_0 l0_1 l0_2 l0_3 l0_4 l0_5).bind fun t312 => (if t312 > 2000 then ((budwoodlaw16_awake.f k).bind fun t313 => (some t313)) else ((link_Word.f k a0_0 l0_1 l0_2 l0_3 l0_4 l0_5 a1_0 a1_1 l1_2 a2).bind fun bt314 => ((budwoodref16_Word.f k a0_0 l0_1 l0_2 l0_3 l0_4 l0_5 a1_0 a1_1 l1_2 a2).bind fun bt316 => (if bt314.1 = bt316.1 then (if bt314.2 = bt316.2 then ((budwoodlaw16_awake.f k).bind fun t318 => (some t318)) else (some false)) else (some false)))))
theorem budwoodlaw16_LinkWords.mono : ∀ a0 a1 a2 a3 a4 a5 a6 a7 a8 a9 k, LeO (budwoodlaw16_LinkWords.f k a0 a1 a2 a3 a4 a5 a6 a7 a8 a9) (budwoodlaw16_LinkWords.f (k + 1) a0 a1 a2 a3 a4 a5 a6 a7 a8 a9) := by
  intro a0 a1 a2 a3 a4 a5 a6 a7 a8 a9 k
  unfold budwoodlaw16_LinkWords.f
  repeat' first
      | (with_reducible exact budwoodlaw16_awake.mono _)
      | (with_reducible exact budwoodref10_Size.mono _ _ _ _ _ _ _)
      | (with_reducible exact budwoodref16_Word.mono _ _ _ _ _ _ _ _ _ _ _)
      | (with_reducible exact link_Word.mono _ _ _ _ _ _ _ _ _ _ _)
      | (with_reducible exact LeO.refl _)
      | (with_reducible exact LeO.none _)
      | (with_reducible refine LeO.ite ?_ ?_)
      | (with_reducible refine LeO.bind ?_ (fun _ => ?_))
      | exact budwoodlaw16_awake.mono _
      | exact budwoodref10_Size.mono _ _ _ _ _ _ _
      | exact budwoodref16_Word.mono _ _ _ _ _ _ _ _ _ _ _
      | exact link_Word.mono _ _ _ _ _ _ _ _ _ _ _
      | exact LeO.none _
      | refine LeO.ite ?_ ?_
      | refine LeO.bind ?_ (fun _ => ?_)

/-! ### budwoodref10_Copy: function 9 -/
def budwoodref10_Copy.f (a0_0 : ByteArray) (l0_1 : List ByteArray) (l0_2 : List ByteArray) (l0_3 : List Int) (l0_4 : List Int) (l0_5 : List (S53)) : Option (ByteArray × List ByteArray × List ByteArray × List Int × List Int × (List (S53))) := (some (([] : List ByteArray) : List ByteArray)).bind fun y321 => (if y321.length + l0_1.length < 8796093022208 then ((some (([] : List ByteArray) : List ByteArray)).bind fun y327 => (if y327.length + l0_2.length < 8796093022208 then ((some (([] : List Int) : List Int)).bind fun y333 => (if y333.length + l0_3.length < 35184372088832 then ((some (([] : List Int) : List Int)).bind fun y339 => (if y339.length + l0_4.length < 35184372088832 then ((some (([] : List (S53)) : List (S53))).bind fun y345 => (if y345.length + l0_5.length < 23456248059221 then (some (a0_0, (y321 ++ l0_1), (y327 ++ l0_2), (y333 ++ l0_3), (y339 ++ l0_4), (y345 ++ l0_5))) else (none))) else (none))) else (none))) else (none))) else (none))
def budwoodref10_Copy.T1 : Bool × List (List Nat × List Nat) := (true, [([], []), ([0], [0]), ([], []), ([], []), ([3], [3]), ([2, 4], [2, 4]), ([], []), ([], []), ([7], [7]), ([6, 8, 5], [6, 8]), ([], []), ([], []), ([11], [11]), ([10, 12, 9], [10, 12]), ([], []), ([], []), ([15], [15]), ([14, 16, 13], [14, 16]), ([], []), ([], []), ([19], [19]), ([18, 20, 17], [18, 20]), ([1, 5, 9, 13, 17, 21], [1, 5, 9, 13, 17, 21]), ([22, 21, 0, 1, 2, 3, 4, 5, 6, 7, 8, 9, 10, 11, 12, 13, 14, 15, 16, 17, 18, 19, 20, 21, 22], [22])])
def budwoodref10_Copy.B1 : List Nat := [0, 1, 0, 0, 8, 28, 0, 0, 128, 508, 0, 0, 2048, 8188, 0, 0, 32768, 131068, 0, 0, 524288, 2097148, 4194303, 8388607]
theorem budwoodref10_Copy.tab1 : rtab .any (opsOf Try.f9 1) = budwoodref10_Copy.T1 := by kernel_rfl
theorem budwoodref10_Copy.bits1 : waitsOk budwoodref10_Copy.T1.2 budwoodref10_Copy.B1 = true := by kernel_rfl
@[reducible] def DJ (x y : Value) : Prop := ∀ k, x.ownBlock = some k → y.ownBlock = some k → False
@[reducible] def DD (a1 a2 c1 c2 : Bool) (x1 x2 y1 y2 : Value) : Prop := (a1 = true → a2 = false → c1 = true → c2 = false → DJ x1 y1) ∧ (a2 = true → c1 = true → c2 = false → DJ x2 y1) ∧ (a2 = true → c2 = true → DJ x2 y2)
theorem okS_ {α : Type} {enc : α → Value} {h1 : ∀ x, (enc x).oneCell' = true} {e base : Nat} {w : World} {ok ok' : Nat → Prop} {v : Value} {xs : List α} (h : Kd.R (Kd.scalar enc h1) e w base ok v xs) (hok : ∀ k, v.ownBlock = some k → ok' k) : Kd.R (Kd.scalar enc h1) e w base ok' v xs := Kd.R_of_own (Kd.own_of_R h) hok

/-! ### budwoodref12_Pages: function 42 -/
def budwoodref12_Pages.f (a0_0 : Int) (a0_1 : Int) : Option (Int) := if a0_0 < 0 then (some 0) else (if a0_1 < 0 then (some 0) else (if a0_0 > 256 then (some 0) else (if a0_1 > 256 then (some 0) else (some (wrap64 (a0_0 + a0_1))))))

/-! ### budwoodref12_Words: function 28 -/
def budwoodref12_Words.f (a0_0 : Int) (a0_1 : Int) : Option (Int) := (budwoodref12_Pages.f a0_0 a0_1).bind fun t353 => (some (wrap64 (16 * t353)))

/-! ### budwoodref12_Of: function 29 -/
def budwoodref12_Of.f (a0_0 : ByteArray) (l0_1 : List ByteArray) (l0_2 : List ByteArray) (l0_3 : List Int) (l0_4 : List Int) (l0_5 : List (S53)) : Option (Int × Int) := (budwoodref12_pages.f (l0_3.length : Int)).bind fun t356 => ((budwoodref12_pages.f (l0_4.length : Int)).bind fun t357 => (some (t356, t357)))
def budwoodref12_Of.T1 : Bool × List (List Nat × List Nat) := (true, [([], []), ([0], [0]), ([1], [1]), ([2], [2]), ([], []), ([4], [4]), ([5], [5]), ([6, 3], [6]), ([3, 7], [3, 7]), ([8, 7, 0, 1, 2, 3, 4, 5, 6, 7, 8], [8])])
def budwoodref12_Of.B1 : List Nat := [0, 1, 3, 7, 0, 16, 48, 127, 255, 511]
theorem budwoodref12_Of.tab1 : rtab .any (opsOf Try.f29 1) = budwoodref12_Of.T1 := by kernel_rfl
theorem budwoodref12_Of.bits1 : waitsOk budwoodref12_Of.T1.2 budwoodref12_Of.B1 = true := by kernel_rfl

/-! ### budwoodref16_Image: function 11 -/
mutual
def budwoodref16_Image.j0 : Nat → List Int → Bool → ByteArray → List ByteArray → List ByteArray → List Int → List Int → List (S53) → Int → Int → Option (List Int × Int)
  | 0, _, _, _, _, _, _, _, _, _, _ => none
  | k + 1, x2, x28, x359000, x359001, x359002, x359003, x359004, x359005, x360000, x360001 => if x28 = true then (some (([] : List Int), 5)) else ((budwoodref12_Of.f x359000 x359001 x359002 x359003 x359004 x359005).bind fun bt360 => ((budwoodref12_Words.f bt360.1 bt360.2).bind fun t362 => (budwoodref16_Image.l0 k x2 ([] : List Int) t362 0 x359000 x359001 x359002 x359003 x359004 x359005 x360000 x360001)))
def budwoodref16_Image.l0 : Nat → List Int → List Int → Int → Int → ByteArray → List ByteArray → List ByteArray → List Int → List Int → List (S53) → Int → Int → Option (List Int × Int)
  | 0, _, _, _, _, _, _, _, _, _, _, _, _ => none
  | k + 1, x2, x8, x9, x10, x359000, x359001, x359002, x359003, x359004, x359005, x360000, x360001 => if x10 < x9 then ((budwoodref16_Word.f k x359000 x359001 x359002 x359003 x359004 x359005 x360000 x360001 x2 x10).bind fun bt363 => (if bt363.2 = 0 then (if x8.length < 35184372088832 then (budwoodref16_Image.l0 k x2 (x8 ++ [bt363.1]) x9 (wrap64 (x10 + 1)) x359000 x359001 x359002 x359003 x359004 x359005 x360000 x360001) else (none)) else (some (([] : List Int), bt363.2)))) else (some (x8, 0))
end
def budwoodref16_Image.f (k : Nat) (a0_0 : ByteArray) (l0_1 : List ByteArray) (l0_2 : List ByteArray) (l0_3 : List Int) (l0_4 : List Int) (l0_5 : List (S53)) (a1_0 : Int) (a1_1 : Int) (l2 : List Int) : Option (List Int × Int) := if (l0_3.length : Int) > 512 then (budwoodref16_Image.j0 k l2 true a0_0 l0_1 l0_2 l0_3 l0_4 l0_5 a1_0 a1_1) else (if (l0_4.length : Int) > 128 then (budwoodref16_Image.j0 k l2 true a0_0 l0_1 l0_2 l0_3 l0_4 l0_5 a1_0 a1_1) else (budwoodref16_Image.j0 k l2 (decide ((l0_5.length : Int) > 256)) a0_0 l0_1 l0_2 l0_3 l0_4 l0_5 a1_0 a1_1))
theorem budwoodref16_Image.mono_l : ∀ k, (∀ y0 y1 y2 y3 y4 y5 y6 y7 y8 y9, LeO (budwoodref16_Image.j0 k y0 y1 y2 y3 y4 y5 y6 y7 y8 y9) (budwoodref16_Image.j0 (k + 1) y0 y1 y2 y3 y4 y5 y6 y7 y8 y9)) ∧ (∀ y0 y1 y2 y3 y4 y5 y6 y7 y8 y9 y10 y11, LeO (budwoodref16_Image.l0 k y0 y1 y2 y3 y4 y5 y6 y7 y8 y9 y10 y11) (budwoodref16_Image.l0 (k + 1) y0 y1 y2 y3 y4 y5 y6 y7 y8 y9 y10 y11))
  | 0 => ⟨fun _ _ _ _ _ _ _ _ _ _ r h => by simp [budwoodref16_Image.j0] at h, fun _ _ _ _ _ _ _ _ _ _ _ _ r h => by simp [budwoodref16_Image.l0] at h⟩
  | k + 1 => by
    obtain ⟨ih0, ih1⟩ := budwoodref16_Image.mono_l k
    refine ⟨?_, ?_⟩
    · intro y0 y1 y2 y3 y4 y5 y6 y7 y8 y9
      unfold budwoodref16_Image.j0
      repeat' first
      | (with_reducible exact ih0 _ _ _ _ _ _ _ _ _ _)
      | (with_reducible exact ih1 _ _ _ _ _ _ _ _ _ _ _ _)
      | (with_reducible exact budwoodref16_Word.mono _ _ _ _ _ _ _ _ _ _ _)
      | (with_reducible exact LeO.refl _)
      | (with_reducible exact LeO.none _)
      | (with_reducible refine LeO.ite ?_ ?_)
      | (with_reducible refine LeO.bind ?_ (fun _ => ?_))
      | exact ih0 _ _ _ _ _ _ _ _ _ _
      | exact ih1 _ _ _ _ _ _ _ _ _ _ _ _
      | exact budwoodref16_Word.mono _ _ _ _ _ _ _ _ _ _ _
      | exact LeO.none _
      | refine LeO.ite ?_ ?_
      | refine LeO.bind ?_ (fun _ => ?_)
    · intro y0 y1 y2 y3 y4 y5 y6 y7 y8 y9 y10 y11
      unfold budwoodref16_Image.l0
      repeat' first
      | (with_reducible exact ih0 _ _ _ _ _ _ _ _ _ _)
      | (with_reducible exact ih1 _ _ _ _ _ _ _ _ _ _ _ _)
      | (with_reducible exact budwoodref16_Word.mono _ _ _ _ _ _ _ _ _ _ _)
      | (with_reducible exact LeO.refl _)
      | (with_reducible exact LeO.none _)
      | (with_reducible refine LeO.ite ?_ ?_)
      | (with_reducible refine LeO.bind ?_ (fun _ => ?_))
      | exact ih0 _ _ _ _ _ _ _ _ _ _
      | exact ih1 _ _ _ _ _ _ _ _ _ _ _ _
      | exact budwoodref16_Word.mono _ _ _ _ _ _ _ _ _ _ _
      | exact LeO.none _
      | refine LeO.ite ?_ ?_
      | refine LeO.bind ?_ (fun _ => ?_)
theorem budwoodref16_Image.mono : ∀ a0 a1 a2 a3 a4 a5 a6 a7 a8 k, LeO (budwoodref16_Image.f k a0 a1 a2 a3 a4 a5 a6 a7 a8) (budwoodref16_Image.f (k + 1) a0 a1 a2 a3 a4 a5 a6 a7 a8) := by
  intro a0 a1 a2 a3 a4 a5 a6 a7 a8 k
  obtain ⟨ih0, ih1⟩ := budwoodref16_Image.mono_l k
  unfold budwoodref16_Image.f
  repeat' first
      | (with_reducible exact ih0 _ _ _ _ _ _ _ _ _ _)
      | (with_reducible exact ih1 _ _ _ _ _ _ _ _ _ _ _ _)
      | (with_reducible exact budwoodref16_Word.mono _ _ _ _ _ _ _ _ _ _ _)
      | (with_reducible exact LeO.refl _)
      | (with_reducible exact LeO.none _)
      | (with_reducible refine LeO.ite ?_ ?_)
      | (with_reducible refine LeO.bind ?_ (fun _ => ?_))
      | exact ih0 _ _ _ _ _ _ _ _ _ _
      | exact ih1 _ _ _ _ _ _ _ _ _ _ _ _
      | exact budwoodref16_Word.mono _ _ _ _ _ _ _ _ _ _ _
      | exact LeO.none _
      | refine LeO.ite ?_ ?_
      | refine LeO.bind ?_ (fun _ => ?_)

/-! ### budwoodref10_SameWords: function 12 -/
def budwoodref10_SameWords.l0 : Nat → List Int → List Int → Int → Option (Bool)
  | 0, _, _, _ => none
  | k + 1, x0, x1, x5 => if x5 < (x0.length : Int) then (if 0 ≤ x5 then (if x5 < (x1.length : Int) then (if (rd x0 x5) = (rd x1 x5) then (budwoodref10_SameWords.l0 k x0 x1 (wrap64 (x5 + 1))) else (some false)) else (none)) else (none)) else (some true)
def budwoodref10_SameWords.f (k : Nat) (l0 : List Int) (l1 : List Int) : Option (Bool) := if (l0.length : Int) = (l1.length : Int) then (budwoodref10_SameWords.l0 k l0 l1 0) else (some false)
theorem budwoodref10_SameWords.mono_l : ∀ k, (∀ y0 y1 y2, LeO (budwoodref10_SameWords.l0 k y0 y1 y2) (budwoodref10_SameWords.l0 (k + 1) y0 y1 y2))
  | 0 => fun _ _ _ r h => by simp [budwoodref10_SameWords.l0] at h
  | k + 1 => by
    have ih0 := budwoodref10_SameWords.mono_l k
    · intro y0 y1 y2
      unfold budwoodref10_SameWords.l0
      repeat' first
      | (with_reducible exact ih0 _ _ _)
      | (with_reducible exact LeO.refl _)
      | (with_reducible exact LeO.none _)
      | (with_reducible refine LeO.ite ?_ ?_)
      | (with_reducible refine LeO.bind ?_ (fun _ => ?_))
      | exact ih0 _ _ _
      | exact LeO.none _
      | refine LeO.ite ?_ ?_
      | refine LeO.bind ?_ (fun _ => ?_)
theorem budwoodref10_SameWords.mono : ∀ a0 a1 k, LeO (budwoodref10_SameWords.f k a0 a1) (budwoodref10_SameWords.f (k + 1) a0 a1) := by
  intro a0 a1 k
  have ih0 := budwoodref10_SameWords.mono_l k
  unfold budwoodref10_SameWords.f
  repeat' first
      | (with_reducible exact ih0 _ _ _)
      | (with_reducible exact LeO.refl _)
      | (with_reducible exact LeO.none _)
      | (with_reducible refine LeO.ite ?_ ?_)
      | (with_reducible refine LeO.bind ?_ (fun _ => ?_))
      | exact ih0 _ _ _
      | exact LeO.none _
      | refine LeO.ite ?_ ?_
      | refine LeO.bind ?_ (fun _ => ?_)

/-! ### budwoodref10_SameTexts: function 30 -/
def budwoodref10_SameTexts.l0 : Nat → List ByteArray → List ByteArray → Int → Option (Bool)
  | 0, _, _, _ => none
  | k + 1, x0, x1, x5 => if x5 < (x0.length : Int) then (if 0 ≤ x5 then (if x5 < (x1.length : Int) then (if (rdOf ByteArray.empty x0 x5).toList = (rdOf ByteArray.empty x1 x5).toList then (budwoodref10_SameTexts.l0 k x0 x1 (wrap64 (x5 + 1))) else (some false)) else (none)) else (none)) else (some true)
def budwoodref10_SameTexts.f (k : Nat) (l0 : List ByteArray) (l1 : List ByteArray) : Option (Bool) := if (l0.length : Int) = (l1.length : Int) then (budwoodref10_SameTexts.l0 k l0 l1 0) else (some false)
theorem budwoodref10_SameTexts.mono_l : ∀ k, (∀ y0 y1 y2, LeO (budwoodref10_SameTexts.l0 k y0 y1 y2) (budwoodref10_SameTexts.l0 (k + 1) y0 y1 y2))
  | 0 => fun _ _ _ r h => by simp [budwoodref10_SameTexts.l0] at h
  | k + 1 => by
    have ih0 := budwoodref10_SameTexts.mono_l k
    · intro y0 y1 y2
      unfold budwoodref10_SameTexts.l0
      repeat' first
      | (with_reducible exact ih0 _ _ _)
      | (with_reducible exact LeO.refl _)
      | (with_reducible exact LeO.none _)
      | (with_reducible refine LeO.ite ?_ ?_)
      | (with_reducible refine LeO.bind ?_ (fun _ => ?_))
      | exact ih0 _ _ _
      | exact LeO.none _
      | refine LeO.ite ?_ ?_
      | refine LeO.bind ?_ (fun _ => ?_)
theorem budwoodref10_SameTexts.mono : ∀ a0 a1 k, LeO (budwoodref10_SameTexts.f k a0 a1) (budwoodref10_SameTexts.f (k + 1) a0 a1) := by
  intro a0 a1 k
  have ih0 := budwoodref10_SameTexts.mono_l k
  unfold budwoodref10_SameTexts.f
  repeat' first
      | (with_reducible exact ih0 _ _ _)
      | (with_reducible exact LeO.refl _)
      | (with_reducible exact LeO.none _)
      | (with_reducible refine LeO.ite ?_ ?_)
      | (with_reducible refine LeO.bind ?_ (fun _ => ?_))
      | exact ih0 _ _ _
      | exact LeO.none _
      | refine LeO.ite ?_ ?_
      | refine LeO.bind ?_ (fun _ => ?_)

/-! ### budwoodref10_Same: function 13 -/
mutual
def budwoodref10_Same.j0 : Nat → Bool → ByteArray → List ByteArray → List ByteArray → List Int → List Int → List (S53) → ByteArray → List ByteArray → List ByteArray → List Int → List Int → List (S53) → Option (Bool)
  | 0, _, _, _, _, _, _, _, _, _, _, _, _, _ => none
  | k + 1, x51, x373000, x373001, x373002, x373003, x373004, x373005, x374000, x374001, x374002, x374003, x374004, x374005 => if x51 = true then (some false) else (budwoodref10_Same.l0 k 0 x373000 x373001 x373002 x373003 x373004 x373005 x374000 x374001 x374002 x374003 x374004 x374005)
def budwoodref10_Same.l0 : Nat → Int → ByteArray → List ByteArray → List ByteArray → List Int → List Int → List (S53) → ByteArray → List ByteArray → List ByteArray → List Int → List Int → List (S53) → Option (Bool)
  | 0, _, _, _, _, _, _, _, _, _, _, _, _, _ => none
  | k + 1, x5, x373000, x373001, x373002, x373003, x373004, x373005, x374000, x374001, x374002, x374003, x374004, x374005 => if x5 < (x373005.length : Int) then (if 0 ≤ x5 then (if x5 < (x374005.length : Int) then (if (!(((rd_T53 x373005 x5).f0) == ((rd_T53 x374005 x5).f0)) || (!(((rd_T53 x373005 x5).f1) == ((rd_T53 x374005 x5).f1)) || (!(((rd_T53 x373005 x5).f2) == ((rd_T53 x374005 x5).f2))))) = true then (some false) else (budwoodref10_Same.l0 k (wrap64 (x5 + 1)) x373000 x373001 x373002 x373003 x373004 x373005 x374000 x374001 x374002 x374003 x374004 x374005)) else (none)) else (none)) else (some true)
end
def budwoodref10_Same.f (k : Nat) (a0_0 : ByteArray) (l0_1 : List ByteArray) (l0_2 : List ByteArray) (l0_3 : List Int) (l0_4 : List Int) (l0_5 : List (S53)) (a1_0 : ByteArray) (l1_1 : List ByteArray) (l1_2 : List ByteArray) (l1_3 : List Int) (l1_4 : List Int) (l1_5 : List (S53)) : Option (Bool) := if a0_0.toList = a1_0.toList then ((budwoodref10_SameTexts.f k l0_1 l1_1).bind fun t374 => (if t374 = true then ((budwoodref10_SameTexts.f k l0_2 l1_2).bind fun t375 => (if t375 = true then ((budwoodref10_SameWords.f k l0_3 l1_3).bind fun t376 => (if t376 = true then ((budwoodref10_SameWords.f k l0_4 l1_4).bind fun t377 => (if t377 = true then (budwoodref10_Same.j0 k ((l0_5.length : Int) != (l1_5.length : Int)) a0_0 l0_1 l0_2 l0_3 l0_4 l0_5 a1_0 l1_1 l1_2 l1_3 l1_4 l1_5) else (budwoodref10_Same.j0 k true a0_0 l0_1 l0_2 l0_3 l0_4 l0_5 a1_0 l1_1 l1_2 l1_3 l1_4 l1_5))) else (budwoodref10_Same.j0 k true a0_0 l0_1 l0_2 l0_3 l0_4 l0_5 a1_0 l1_1 l1_2 l1_3 l1_4 l1_5))) else (budwoodref10_Same.j0 k true a0_0 l0_1 l0_2 l0_3 l0_4 l0_5 a1_0 l1_1 l1_2 l1_3 l1_4 l1_5))) else (budwoodref10_Same.j0 k true a0_0 l0_1 l0_2 l0_3 l0_4 l0_5 a1_0 l1_1 l1_2 l1_3 l1_4 l1_5))) else (budwoodref10_Same.j0 k true a0_0 l0_1 l0_2 l0_3 l0_4 l0_5 a1_0 l1_1 l1_2 l1_3 l1_4 l1_5)
theorem budwoodref10_Same.mono_l : ∀ k, (∀ y0 y1 y2 y3 y4 y5 y6 y7 y8 y9 y10 y11 y12, LeO (budwoodref10_Same.j0 k y0 y1 y2 y3 y4 y5 y6 y7 y8 y9 y10 y11 y12) (budwoodref10_Same.j0 (k + 1) y0 y1 y2 y3 y4 y5 y6 y7 y8 y9 y10 y11 y12)) ∧ (∀ y0 y1 y2 y3 y4 y5 y6 y7 y8 y9 y10 y11 y12, LeO (budwoodref10_Same.l0 k y0 y1 y2 y3 y4 y5 y6 y7 y8 y9 y10 y11 y12) (budwoodref10_Same.l0 (k + 1) y0 y1 y2 y3 y4 y5 y6 y7 y8 y9 y10 y11 y12))
  | 0 => ⟨fun _ _ _ _ _ _ _ _ _ _ _ _ _ r h => by simp [budwoodref10_Same.j0] at h, fun _ _ _ _ _ _ _ _ _ _ _ _ _ r h => by simp [budwoodref10_Same.l0] at h⟩
  | k + 1 => by
    obtain ⟨ih0, ih1⟩ := budwoodref10_Same.mono_l k
    refine ⟨?_, ?_⟩
    · intro y0 y1 y2 y3 y4 y5 y6 y7 y8 y9 y10 y11 y12
      unfold budwoodref10_Same.j0
      repeat' first
      | (with_reducible exact ih0 _ _ _ _ _ _ _ _ _ _ _ _ _)
      | (with_reducible exact ih1 _ _ _ _ _ _ _ _ _ _ _ _ _)
      | (with_reducible exact budwoodref10_SameTexts.mono _ _ _)
      | (with_reducible exact budwoodref10_SameWords.mono _ _ _)
      | (with_reducible exact LeO.refl _)
      | (with_reducible exact LeO.none _)
      | (with_reducible refine LeO.ite ?_ ?_)
      | (with_reducible refine LeO.bind ?_ (fun _ => ?_))
      | exact ih0 _ _ _ _ _ _ _ _ _ _ _ _ _
      | exact ih1 _ _ _ _ _ _ _ _ _ _ _ _ _
      | exact budwoodref10_SameTexts.mono _ _ _
      | exact budwoodref10_SameWords.mono _ _ _
      | exact LeO.none _
      | refine LeO.ite ?_ ?_
      | refine LeO.bind ?_ (fun _ => ?_)
    · intro y0 y1 y2 y3 y4 y5 y6 y7 y8 y9 y10 y11 y12
      unfold budwoodref10_Same.l0
      repeat' first
      | (with_reducible exact ih0 _ _ _ _ _ _ _ _ _ _ _ _ _)
      | (with_reducible exact ih1 _ _ _ _ _ _ _ _ _ _ _ _ _)
      | (with_reducible exact budwoodref10_SameTexts.mono _ _ _)
      | (with_reducible exact budwoodref10_SameWords.mono _ _ _)
      | (with_reducible exact LeO.refl _)
      | (with_reducible exact LeO.none _)
      | (with_reducible refine LeO.ite ?_ ?_)
      | (with_reducible refine LeO.bind ?_ (fun _ => ?_))
      | exact ih0 _ _ _ _ _ _ _ _ _ _ _ _ _
      | exact ih1 _ _ _ _ _ _ _ _ _ _ _ _ _
      | exact budwoodref10_SameTexts.mono _ _ _
      | exact budwoodref10_SameWords.mono _ _ _
      | exact LeO.none _
      | refine LeO.ite ?_ ?_
      | refine LeO.bind ?_ (fun _ => ?_)
theorem budwoodref10_Same.mono : ∀ a0 a1 a2 a3 a4 a5 a6 a7 a8 a9 a10 a11 k, LeO (budwoodref10_Same.f k a0 a1 a2 a3 a4 a5 a6 a7 a8 a9 a10 a11) (budwoodref10_Same.f (k + 1) a0 a1 a2 a3 a4 a5 a6 a7 a8 a9 a10 a11) := by
  intro a0 a1 a2 a3 a4 a5 a6 a7 a8 a9 a10 a11 k
  obtain ⟨ih0, ih1⟩ := budwoodref10_Same.mono_l k
  unfold budwoodref10_Same.f
  repeat' first
      | (with_reducible exact ih0 _ _ _ _ _ _ _ _ _ _ _ _ _)
      | (with_reducible exact ih1 _ _ _ _ _ _ _ _ _ _ _ _ _)
      | (with_reducible exact budwoodref10_SameTexts.mono _ _ _)
      | (with_reducible exact budwoodref10_SameWords.mono _ _ _)
      | (with_reducible exact LeO.refl _)
      | (with_reducible exact LeO.none _)
      | (with_reducible refine LeO.ite ?_ ?_)
      | (with_reducible refine LeO.bind ?_ (fun _ => ?_))
      | exact ih0 _ _ _ _ _ _ _ _ _ _ _ _ _
      | exact ih1 _ _ _ _ _ _ _ _ _ _ _ _ _
      | exact budwoodref10_SameTexts.mono _ _ _
      | exact budwoodref10_SameWords.mono _ _ _
      | exact LeO.none _
      | refine LeO.ite ?_ ?_
      | refine LeO.bind ?_ (fun _ => ?_)

/-! ### budwoodlaw16_LinkImages: function 4 -/
mutual
def budwoodlaw16_LinkImages.j0 : Nat → List Int → Bool → ByteArray → List ByteArray → List ByteArray → List Int → List Int → List (S53) → ByteArray → List ByteArray → List ByteArray → List Int → List Int → List (S53) → Option (Bool)
  | 0, _, _, _, _, _, _, _, _, _, _, _, _, _, _ => none
  | k + 1, x8, x12, x381000, x381001, x381002, x381003, x381004, x381005, x401000, x401001, x401002, x401003, x401004, x401005 => budwoodlaw16_LinkImages.l0 k x8 x12 0 x381000 x381001 x381002 x381003 x381004 x381005 x401000 x401001 x401002 x401003 x401004 x401005
def budwoodlaw16_LinkImages.l0 : Nat → List Int → Bool → Int → ByteArray → List ByteArray → List ByteArray → List Int → List Int → List (S53) → ByteArray → List ByteArray → List ByteArray → List Int → List Int → List (S53) → Option (Bool)
  | 0, _, _, _, _, _, _, _, _, _, _, _, _, _, _, _ => none
  | k + 1, x8, x12, x13, x381000, x381001, x381002, x381003, x381004, x381005, x401000, x401001, x401002, x401003, x401004, x401005 => if x13 < (x8.length : Int) then (if 0 ≤ x13 then (budwoodlaw16_LinkImages.l0 k (x8.set (x13 : Int).toNat (((rd x8 x13) + 1) % 4294967296)) x12 (wrap64 (x13 + 1)) x381000 x381001 x381002 x381003 x381004 x381005 x401000 x401001 x401002 x401003 x401004 x401005) else (none)) else (if x12 = true then ((budwoodref10_Same.f k x401000 x401001 x401002 x401003 x401004 x401005 x381000 x381001 x381002 x381003 x381004 x381005).bind fun t412 => (if t412 = true then ((budwoodlaw16_awake.f k).bind fun t413 => (some t413)) else (some false))) else (some false))
end
def budwoodlaw16_LinkImages.f (k : Nat) (a0_0 : ByteArray) (l0_1 : List ByteArray) (l0_2 : List ByteArray) (l0_3 : List Int) (l0_4 : List Int) (l0_5 : List (S53)) (a1_0 : Int) (a1_1 : Int) (l2 : List Int) : Option (Bool) := (budwoodref10_Size.f k a0_0 l0_1 l0_2 l0_3 l0_4 l0_5).bind fun t382 => (if t382 > 2000 then ((budwoodlaw16_awake.f k).bind fun t383 => (some t383)) else ((budwoodref10_Copy.f a0_0 l0_1 l0_2 l0_3 l0_4 l0_5).bind fun bt384 => ((link_Image.f k bt384.1 bt384.2.1 bt384.2.2.1 bt384.2.2.2.1 bt384.2.2.2.2.1 bt384.2.2.2.2.2 a1_0 a1_1 l2).bind fun bt401 => ((budwoodref16_Image.f k a0_0 l0_1 l0_2 l0_3 l0_4 l0_5 a1_0 a1_1 l2).bind fun bt405 => ((budwoodref10_SameWords.f k bt401.1 bt405.1).bind fun t409 => (if t409 = true then (budwoodlaw16_LinkImages.j0 k bt401.1 (bt401.2 == bt405.2) a0_0 l0_1 l0_2 l0_3 l0_4 l0_5 bt384.1 bt384.2.1 bt384.2.2.1 bt384.2.2.2.1 bt384.2.2.2.2.1 bt384.2.2.2.2.2) else (budwoodlaw16_LinkImages.j0 k bt401.1 false a0_0 l0_1 l0_2 l0_3 l0_4 l0_5 bt384.1 bt384.2.1 bt384.2.2.1 bt384.2.2.2.1 bt384.2.2.2.2.1 bt384.2.2.2.2.2)))))))
theorem budwoodlaw16_LinkImages.mono_l : ∀ k, (∀ y0 y1 y2 y3 y4 y5 y6 y7 y8 y9 y10 y11 y12 y13, LeO (budwoodlaw16_LinkImages.j0 k y0 y1 y2 y3 y4 y5 y6 y7 y8 y9 y10 y11 y12 y13) (budwoodlaw16_LinkImages.j0 (k + 1) y0 y1 y2 y3 y4 y5 y6 y7 y8 y9 y10 y11 y12 y13)) ∧ (∀ y0 y1 y2 y3 y4 y5 y6 y7 y8 y9 y10 y11 y12 y13 y14, LeO (budwoodlaw16_LinkImages.l0 k y0 y1 y2 y3 y4 y5 y6 y7 y8 y9 y10 y11 y12 y13 y14) (budwoodlaw16_LinkImages.l0 (k + 1) y0 y1 y2 y3 y4 y5 y6 y7 y8 y9 y10 y11 y12 y13 y14))
  | 0 => ⟨fun _ _ _ _ _ _ _ _ _ _ _ _ _ _ r h => by simp [budwoodlaw16_LinkImages.j0] at h, fun _ _ _ _ _ _ _ _ _ _ _ _ _ _ _ r h => by simp [budwoodlaw16_LinkImages.l0] at h⟩
  | k + 1 => by
    obtain ⟨ih0, ih1⟩ := budwoodlaw16_LinkImages.mono_l k
    refine ⟨?_, ?_⟩
    · intro y0 y1 y2 y3 y4 y5 y6 y7 y8 y9 y10 y11 y12 y13
      unfold budwoodlaw16_LinkImages.j0
      repeat' first
      | (with_reducible exact ih0 _ _ _ _ _ _ _ _ _ _ _ _ _ _)
      | (with_reducible exact ih1 _ _ _ _ _ _ _ _ _ _ _ _ _ _ _)
      | (with_reducible exact budwoodlaw16_awake.mono _)
      | (with_reducible exact budwoodref10_Same.mono _ _ _ _ _ _ _ _ _ _ _ _ _)
      | (with_reducible exact budwoodref10_SameWords.mono _ _ _)
      | (with_reducible exact budwoodref10_Size.mono _ _ _ _ _ _ _)
      | (with_reducible exact budwoodref16_Image.mono _ _ _ _ _ _ _ _ _ _)
      | (with_reducible exact link_Image.mono _ _ _ _ _ _ _ _ _ _)
      | (with_reducible exact LeO.refl _)
      | (with_reducible exact LeO.none _)
      | (with_reducible refine LeO.ite ?_ ?_)
      | (with_reducible refine LeO.bind ?_ (fun _ => ?_))
      | exact ih0 _ _ _ _ _ _ _ _ _ _ _ _ _ _
      | exact ih1 _ _ _ _ _ _ _ _ _ _ _ _ _ _ _
      | exact budwoodlaw16_awake.mono _
      | exact budwoodref10_Same.mono _ _ _ _ _ _ _ _ _ _ _ _ _
      | exact budwoodref10_SameWords.mono _ _ _
      | exact budwoodref10_Size.mono _ _ _ _ _ _ _
      | exact budwoodref16_Image.mono _ _ _ _ _ _ _ _ _ _
      | exact link_Image.mono _ _ _ _ _ _ _ _ _ _
      | exact LeO.none _
      | refine LeO.ite ?_ ?_
      | refine LeO.bind ?_ (fun _ => ?_)
    · intro y0 y1 y2 y3 y4 y5 y6 y7 y8 y9 y10 y11 y12 y13 y14
      unfold budwoodlaw16_LinkImages.l0
      repeat' first
      | (with_reducible exact ih0 _ _ _ _ _ _ _ _ _ _ _ _ _ _)
      | (with_reducible exact ih1 _ _ _ _ _ _ _ _ _ _ _ _ _ _ _)
      | (with_reducible exact budwoodlaw16_awake.mono _)
      | (with_reducible exact budwoodref10_Same.mono _ _ _ _ _ _ _ _ _ _ _ _ _)
      | (with_reducible exact budwoodref10_SameWords.mono _ _ _)
      | (with_reducible exact budwoodref10_Size.mono _ _ _ _ _ _ _)
      | (with_reducible exact budwoodref16_Image.mono _ _ _ _ _ _ _ _ _ _)
      | (with_reducible exact link_Image.mono _ _ _ _ _ _ _ _ _ _)
      | (with_reducible exact LeO.refl _)
      | (with_reducible exact LeO.none _)
      | (with_reducible refine LeO.ite ?_ ?_)
      | (with_reducible refine LeO.bind ?_ (fun _ => ?_))
      | exact ih0 _ _ _ _ _ _ _ _ _ _ _ _ _ _
      | exact ih1 _ _ _ _ _ _ _ _ _ _ _ _ _ _ _
      | exact budwoodlaw16_awake.mono _
      | exact budwoodref10_Same.mono _ _ _ _ _ _ _ _ _ _ _ _ _
      | exact budwoodref10_SameWords.mono _ _ _
      | exact budwoodref10_Size.mono _ _ _ _ _ _ _
      | exact budwoodref16_Image.mono _ _ _ _ _ _ _ _ _ _
      | exact link_Image.mono _ _ _ _ _ _ _ _ _ _
      | exact LeO.none _
      | refine LeO.ite ?_ ?_
      | refine LeO.bind ?_ (fun _ => ?_)
theorem budwoodlaw16_LinkImages.mono : ∀ a0 a1 a2 a3 a4 a5 a6 a7 a8 k, LeO (budwoodlaw16_LinkImages.f k a0 a1 a2 a3 a4 a5 a6 a7 a8) (budwoodlaw16_LinkImages.f (k + 1) a0 a1 a2 a3 a4 a5 a6 a7 a8) := by
  intro a0 a1 a2 a3 a4 a5 a6 a7 a8 k
  obtain ⟨ih0, ih1⟩ := budwoodlaw16_LinkImages.mono_l k
  unfold budwoodlaw16_LinkImages.f
  repeat' first
      | (with_reducible exact ih0 _ _ _ _ _ _ _ _ _ _ _ _ _ _)
      | (with_reducible exact ih1 _ _ _ _ _ _ _ _ _ _ _ _ _ _ _)
      | (with_reducible exact budwoodlaw16_awake.mono _)
      | (with_reducible exact budwoodref10_Same.mono _ _ _ _ _ _ _ _ _ _ _ _ _)
      | (with_reducible exact budwoodref10_SameWords.mono _ _ _)
      | (with_reducible exact budwoodref10_Size.mono _ _ _ _ _ _ _)
      | (with_reducible exact budwoodref16_Image.mono _ _ _ _ _ _ _ _ _ _)
      | (with_reducible exact link_Image.mono _ _ _ _ _ _ _ _ _ _)
      | (with_reducible exact LeO.refl _)
      | (with_reducible exact LeO.none _)
      | (with_reducible refine LeO.ite ?_ ?_)
      | (with_reducible refine LeO.bind ?_ (fun _ => ?_))
      | exact ih0 _ _ _ _ _ _ _ _ _ _ _ _ _ _
      | exact ih1 _ _ _ _ _ _ _ _ _ _ _ _ _ _ _
      | exact budwoodlaw16_awake.mono _
      | exact budwoodref10_Same.mono _ _ _ _ _ _ _ _ _ _ _ _ _
      | exact budwoodref10_SameWords.mono _ _ _
      | exact budwoodref10_Size.mono _ _ _ _ _ _ _
      | exact budwoodref16_Image.mono _ _ _ _ _ _ _ _ _ _
      | exact link_Image.mono _ _ _ _ _ _ _ _ _ _
      | exact LeO.none _
      | refine LeO.ite ?_ ?_
      | refine LeO.bind ?_ (fun _ => ?_)

end Go.Proofs.Ytllkloneapjgjaa.P
