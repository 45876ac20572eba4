import Derived.Test.YtlgmboaoemlnpaaDoorPxf
import Derived.Lib.IndexMore
/- Names, pure: the runes of a text; what the reference's decoder and the model's tell is one. -/
namespace Go.Proofs.YtlgmboaoemlnpaaDoor.Nm
open Go.Lib Go.RowKit Go.Proofs.YtlgmboaoemlnpaaDoorW.PrintWords Go.Proofs.YtlgmboaoemlnpaaDoor.P
set_option linter.unusedVariables false

theorem wraps_i64 (n : Int) (h₀ : 0 ≤ n) (h₁ : n < 2 ^ 63) : IntKind.i64.wrap n = n := by rw [IntKind.wrap_i64]; omega
theorem i64_and31 (x : Int) (h₀ : 0 ≤ x) (h₁ : x < 256) : Go.bits .and .i64 x 31 = x % 32 := bits_mask .i64 63 (by decide) wraps_i64 5 (by decide) x h₀ (by omega)
theorem i64_and15 (x : Int) (h₀ : 0 ≤ x) (h₁ : x < 256) : Go.bits .and .i64 x 15 = x % 16 := bits_mask .i64 63 (by decide) wraps_i64 4 (by decide) x h₀ (by omega)
theorem i64_and7 (x : Int) (h₀ : 0 ≤ x) (h₁ : x < 256) : Go.bits .and .i64 x 7 = x % 8 := bits_mask .i64 63 (by decide) wraps_i64 3 (by decide) x h₀ (by omega)
theorem i64_or6 (x y : Int) (hx₀ : 0 ≤ x) (hx : x % 64 = 0) (hx₁ : x < 2147483648) (h₀ : 0 ≤ y) (h₁ : y < 64) : Go.bits .or .i64 x y = x + y :=
  bits_join .i64 63 (by decide) wraps_i64 6 x y hx₀ hx (by omega) h₀ h₁ (by omega)
theorem i64_or12 (x y : Int) (hx₀ : 0 ≤ x) (hx : x % 4096 = 0) (hx₁ : x < 2147483648) (h₀ : 0 ≤ y) (h₁ : y < 4096) : Go.bits .or .i64 x y = x + y :=
  bits_join .i64 63 (by decide) wraps_i64 12 x y hx₀ hx (by omega) h₀ h₁ (by omega)
theorem i64_or18 (x y : Int) (hx₀ : 0 ≤ x) (hx : x % 262144 = 0) (hx₁ : x < 2147483648) (h₀ : 0 ≤ y) (h₁ : y < 262144) : Go.bits .or .i64 x y = x + y :=
  bits_join .i64 63 (by decide) wraps_i64 18 x y hx₀ hx (by omega) h₀ h₁ (by omega)
theorem u8_and192 (x : Int) (h₀ : 0 ≤ x) (h₁ : x < 256) : Go.bits .and .u8 x 192 = x / 64 * 64 := by
  have h : ∀ n : Fin 256, Go.bits .and .u8 ((n.val : Nat) : Int) 192 = ((n.val : Nat) : Int) / 64 * 64 := by decide +kernel
  have := h ⟨x.toNat, by omega⟩
  simp only [Int.toNat_of_nonneg h₀] at this
  exact this
theorem bt_range (s : ByteArray) (i : Int) : 0 ≤ bt s i ∧ bt s i < 256 := by
  unfold bt
  split
  · exact ⟨Int.natCast_nonneg _, by have := UInt8.toNat_lt (s[i.toNat]'‹_›); omega⟩
  · omega
theorem w64 {x : Int} (h₀ : 0 ≤ x) (h₁ : x < 9223372036854775808) : wrap64 x = x := by unfold wrap64; omega
theorem bt_get! (s : ByteArray) (i : Nat) (h : i < s.size) : bt s (i : Int) = ((s.get! i).toNat : Int) := by
  have hd : i < s.data.size := h
  have hg : s.get! i = s.data[i] := getElem!_pos s.data i hd
  unfold bt
  rw [dif_pos (by simpa using h), hg]
  rfl

/-- The rune at place p: -1 of a wrong one. -/
def rv (s : ByteArray) (p : Nat) : Int := if (Utf8.decode s p).2 = 1 ∧ (Utf8.decode s p).1 = 65533 then -1 else ((Utf8.decode s p).1 : Int)

theorem more_f (s : ByteArray) (i : Nat) : budwoodref02_more.f s (i : Int) = some (decide (i < s.size) && decide ((s.get! i).toNat / 64 = 2)) := by
  unfold budwoodref02_more.f
  by_cases h : (i : Int) < (s.size : Int)
  · have hb := bt_get! s i (by omega)
    have h8 := UInt8.toNat_lt (s.get! i)
    rw [if_pos h, if_pos (by omega), hb, u8_and192 _ (by omega) (by omega), decide_eq_true (show i < s.size by omega), Bool.true_and]
    congr 1
    rw [Bool.eq_iff_iff]
    simp
    omega
  · rw [if_neg h, decide_eq_false (show ¬ i < s.size by omega), Bool.false_and]

theorem val2 (x y : Int) (hx : 0 ≤ x ∧ x < 256) (hy : 0 ≤ y ∧ y < 256) : Go.bits .or .i64 (wrap64 ((Go.bits .and .i64 x 31) * 64)) (wrap64 (Go.bits .and .u8 y 63)) = x % 32 * 64 + y % 64 := by
  obtain ⟨hx0, hx1⟩ := hx
  obtain ⟨hy0, hy1⟩ := hy
  rw [i64_and31 x hx0 hx1, u8_and63 y hy0 hy1, w64 (x := x % 32 * 64) (by omega) (by omega), w64 (x := y % 64) (by omega) (by omega)]
  exact i64_or6 _ _ (by omega) (by omega) (by omega) (by omega) (by omega)
theorem val3 (x y z : Int) (hx : 0 ≤ x ∧ x < 256) (hy : 0 ≤ y ∧ y < 256) (hz : 0 ≤ z ∧ z < 256) :
    Go.bits .or .i64 (Go.bits .or .i64 (wrap64 ((Go.bits .and .i64 x 15) * 4096)) (wrap64 ((wrap64 (Go.bits .and .u8 y 63)) * 64))) (wrap64 (Go.bits .and .u8 z 63)) = x % 16 * 4096 + y % 64 * 64 + z % 64 := by
  obtain ⟨hx0, hx1⟩ := hx
  obtain ⟨hy0, hy1⟩ := hy
  obtain ⟨hz0, hz1⟩ := hz
  rw [i64_and15 x hx0 hx1, u8_and63 y hy0 hy1, u8_and63 z hz0 hz1, w64 (x := x % 16 * 4096) (by omega) (by omega), w64 (x := y % 64) (by omega) (by omega), w64 (x := z % 64) (by omega) (by omega), w64 (x := y % 64 * 64) (by omega) (by omega),
    i64_or12 (x % 16 * 4096) (y % 64 * 64) (by omega) (by omega) (by omega) (by omega) (by omega)]
  exact i64_or6 _ _ (by omega) (by omega) (by omega) (by omega) (by omega)
theorem val4 (x y z u : Int) (hx : 0 ≤ x ∧ x < 256) (hy : 0 ≤ y ∧ y < 256) (hz : 0 ≤ z ∧ z < 256) (hu : 0 ≤ u ∧ u < 256) :
    Go.bits .or .i64 (Go.bits .or .i64 (Go.bits .or .i64 (wrap64 ((Go.bits .and .i64 x 7) * 262144)) (wrap64 ((wrap64 (Go.bits .and .u8 y 63)) * 4096))) (wrap64 ((wrap64 (Go.bits .and .u8 z 63)) * 64))) (wrap64 (Go.bits .and .u8 u 63)) = x % 8 * 262144 + y % 64 * 4096 + z % 64 * 64 + u % 64 := by
  obtain ⟨hx0, hx1⟩ := hx
  obtain ⟨hy0, hy1⟩ := hy
  obtain ⟨hz0, hz1⟩ := hz
  obtain ⟨hu0, hu1⟩ := hu
  rw [i64_and7 x hx0 hx1, u8_and63 y hy0 hy1, u8_and63 z hz0 hz1, u8_and63 u hu0 hu1, w64 (x := x % 8 * 262144) (by omega) (by omega), w64 (x := y % 64) (by omega) (by omega), w64 (x := z % 64) (by omega) (by omega), w64 (x := u % 64) (by omega) (by omega), w64 (x := y % 64 * 4096) (by omega) (by omega), w64 (x := z % 64 * 64) (by omega) (by omega),
    i64_or18 (x % 8 * 262144) (y % 64 * 4096) (by omega) (by omega) (by omega) (by omega) (by omega), i64_or12 (x % 8 * 262144 + y % 64 * 4096) (z % 64 * 64) (by omega) (by omega) (by omega) (by omega) (by omega)]
  exact i64_or6 _ _ (by omega) (by omega) (by omega) (by omega) (by omega)

set_option maxHeartbeats 4000000 in
theorem one_f (s : ByteArray) (h : 0 < s.size) (k : Nat) : budwoodref02_One.f (k + 3) s = some (rv s 0, ((Utf8.decode s 0).2 : Int)) := by
  have m1 : budwoodref02_more.f s 1 = some (decide (1 < s.size) && decide ((s.get! 1).toNat / 64 = 2)) := more_f s 1
  have m2 : budwoodref02_more.f s 2 = some (decide (2 < s.size) && decide ((s.get! 2).toNat / 64 = 2)) := more_f s 2
  have m3 : budwoodref02_more.f s 3 = some (decide (3 < s.size) && decide ((s.get! 3).toNat / 64 = 2)) := more_f s 3
  have d := decode_at s 0
  unfold rv
  rw [d]
  clear d
  simp only [Nat.zero_add, Nat.sub_zero]
  have e0 : bt s 0 = ((s.get! 0).toNat : Int) := bt_get! s 0 h
  have e1 : 1 < s.size → bt s 1 = ((s.get! 1).toNat : Int) := bt_get! s 1
  have e2 : 2 < s.size → bt s 2 = ((s.get! 2).toNat : Int) := bt_get! s 2
  have e3 : 3 < s.size → bt s 3 = ((s.get! 3).toNat : Int) := bt_get! s 3
  have r0 := UInt8.toNat_lt (s.get! 0)
  have r1 := UInt8.toNat_lt (s.get! 1)
  have r2 := UInt8.toNat_lt (s.get! 2)
  have r3 := UInt8.toNat_lt (s.get! 3)
  generalize (s.get! 0).toNat = b0 at *
  generalize (s.get! 1).toNat = b1 at *
  generalize (s.get! 2).toNat = b2 at *
  generalize (s.get! 3).toNat = b3 at *
  unfold budwoodref02_One.f
  rw [if_pos (by omega), e0, w64 (by omega) (by omega)]
  by_cases h128 : b0 < 128
  · rw [if_pos (by omega)]
    unfold decodeN
    rw [if_pos h128]
    rw [if_neg (show ¬ ((b0, 1).2 = 1 ∧ (b0, 1).1 = 65533) by simp; omega)]
    rfl
  rw [if_neg (by omega)]
  -- 'two': the first case is met
  by_cases h2 : 194 ≤ b0 ∧ b0 ≤ 223 ∧ (1 < s.size ∧ b1 / 64 = 2)
  · obtain ⟨h2a, h2b, h2n, h2c⟩ := h2
    rw [if_pos (by omega), if_pos (by omega), m1, decide_eq_true h2n, decide_eq_true h2c]
    simp only [Option.bind_some, Bool.and_self, budwoodref02_One.j0, if_true]
    rw [if_pos (by omega), e1 h2n, val2 _ _ (by omega) (by omega)]
    have hd : decodeN s.size b0 b1 b2 b3 = (b0 % 32 * 64 + b1 % 64, 2) := by
      unfold decodeN
      rw [if_neg h128, if_pos ⟨by omega, h2n, h2c⟩, if_pos (by omega)]
    rw [hd, if_neg (by simp)]
    simp
  · have hj0 : (if (b0 : Int) ≥ 194 then (if (b0 : Int) ≤ 223 then ((budwoodref02_more.f s 1).bind fun t110 => (budwoodref02_One.j0 (k + 3) s (b0 : Int) t110)) else (budwoodref02_One.j0 (k + 3) s (b0 : Int) false)) else (budwoodref02_One.j0 (k + 3) s (b0 : Int) false)) = budwoodref02_One.j0 (k + 3) s (b0 : Int) false := by
      split
      · split
        · rw [m1]
          simp only [Option.bind_some]
          congr 1
          rw [Bool.and_eq_false_iff]
          by_cases a : 1 < s.size
          · exact .inr (decide_eq_false (by omega))
          · exact .inl (decide_eq_false a)
        · rfl
      · rfl
    rw [hj0]
    clear hj0
    simp only [budwoodref02_One.j0, Bool.false_eq_true, if_false]
    by_cases h3 : 224 ≤ b0 ∧ b0 ≤ 239 ∧ (1 < s.size ∧ b1 / 64 = 2) ∧ (2 < s.size ∧ b2 / 64 = 2)
    · obtain ⟨h3a, h3b, ⟨n1, c1⟩, n2, c2⟩ := h3
      rw [if_pos (by omega), if_pos (by omega), m1, decide_eq_true n1, decide_eq_true c1]
      simp only [Option.bind_some, Bool.and_self, if_true]
      rw [m2, decide_eq_true n2, decide_eq_true c2]
      simp only [Option.bind_some, Bool.and_self, budwoodref02_One.j1, if_true]
      rw [if_pos (by omega), if_pos (by omega), e1 n1, e2 n2, val3 _ _ _ (by omega) (by omega) (by omega)]
      have hv : ((b0 : Int) % 16 * 4096 + (b1 : Int) % 64 * 64 + (b2 : Int) % 64) = ((b0 % 16 * 4096 + b1 % 64 * 64 + b2 % 64 : Nat) : Int) := by simp
      rw [hv]
      clear hv
      have hd : decodeN s.size b0 b1 b2 b3 = if b0 % 16 * 4096 + b1 % 64 * 64 + b2 % 64 ≥ 2048 ∧ (b0 % 16 * 4096 + b1 % 64 * 64 + b2 % 64 < 55296 ∨ (57344 ≤ b0 % 16 * 4096 + b1 % 64 * 64 + b2 % 64 ∧ b0 % 16 * 4096 + b1 % 64 * 64 + b2 % 64 ≤ 1114111))
     then (b0 % 16 * 4096 + b1 % 64 * 64 + b2 % 64, 3) else (65533, 1) := by
        unfold decodeN
        rw [if_neg h128, if_neg (by omega), if_pos ⟨by omega, ⟨n1, c1⟩, n2, c2⟩]
      rw [hd]
      clear hd
      have hNlt : b0 % 16 * 4096 + b1 % 64 * 64 + b2 % 64 < 65536 := by omega
      generalize b0 % 16 * 4096 + b1 % 64 * 64 + b2 % 64 = N at *
      by_cases g1 : N ≥ 2048 ∧ (N < 55296 ∨ 57344 ≤ N ∧ N ≤ 1114111)
      · rw [if_pos g1, if_pos (by omega)]
        by_cases g2 : (N : Int) < 55296
        · rw [if_pos g2]; simp
        · rw [if_neg g2, if_pos (by omega)]; simp
      · rw [if_neg g1]
        by_cases g2 : (N : Int) ≥ 2048
        · rw [if_pos g2, if_neg (by omega), if_neg (by omega)]; simp
        · rw [if_neg g2]; simp
    · have hj1 : (if (b0 : Int) ≥ 224 then (if (b0 : Int) ≤ 239 then ((budwoodref02_more.f s 1).bind fun t111 => (if t111 = true then ((budwoodref02_more.f s 2).bind fun t112 => (budwoodref02_One.j1 (k + 2) s (b0 : Int) t112)) else (budwoodref02_One.j1 (k + 2) s (b0 : Int) false))) else (budwoodref02_One.j1 (k + 2) s (b0 : Int) false)) else (budwoodref02_One.j1 (k + 2) s (b0 : Int) false)) = budwoodref02_One.j1 (k + 2) s (b0 : Int) false := by
        split
        · split
          · rw [m1]
            simp only [Option.bind_some]
            split
            · rename_i ht
              rw [m2]
              simp only [Option.bind_some]
              congr 1
              simp only [Bool.and_eq_true, decide_eq_true_eq] at ht
              rw [Bool.and_eq_false_iff]
              by_cases a : 2 < s.size
              · exact .inr (decide_eq_false (by omega))
              · exact .inl (decide_eq_false a)
            · rfl
          · rfl
        · rfl
      rw [hj1]
      clear hj1
      simp only [budwoodref02_One.j1, Bool.false_eq_true, if_false]
      by_cases h4 : 240 ≤ b0 ∧ b0 ≤ 244 ∧ (1 < s.size ∧ b1 / 64 = 2) ∧ (2 < s.size ∧ b2 / 64 = 2) ∧ (3 < s.size ∧ b3 / 64 = 2)
      · obtain ⟨h4a, h4b, ⟨n1, c1⟩, ⟨n2, c2⟩, n3, c3⟩ := h4
        rw [if_pos (by omega), if_pos (by omega), m1, decide_eq_true n1, decide_eq_true c1]
        simp only [Option.bind_some, Bool.and_self, if_true]
        rw [m2, decide_eq_true n2, decide_eq_true c2]
        simp only [Option.bind_some, Bool.and_self, if_true]
        rw [m3, decide_eq_true n3, decide_eq_true c3]
        simp only [Option.bind_some, Bool.and_self, budwoodref02_One.j2, if_true]
        rw [if_pos (by omega), if_pos (by omega), if_pos (by omega), e1 n1, e2 n2, e3 n3, val4 _ _ _ _ (by omega) (by omega) (by omega) (by omega)]
        have hv : ((b0 : Int) % 8 * 262144 + (b1 : Int) % 64 * 4096 + (b2 : Int) % 64 * 64 + (b3 : Int) % 64) = ((b0 % 8 * 262144 + b1 % 64 * 4096 + b2 % 64 * 64 + b3 % 64 : Nat) : Int) := by simp
        rw [hv]
        clear hv
        have hd : decodeN s.size b0 b1 b2 b3 = if b0 % 8 * 262144 + b1 % 64 * 4096 + b2 % 64 * 64 + b3 % 64 ≥ 65536 ∧ (b0 % 8 * 262144 + b1 % 64 * 4096 + b2 % 64 * 64 + b3 % 64 < 55296 ∨ (57344 ≤ b0 % 8 * 262144 + b1 % 64 * 4096 + b2 % 64 * 64 + b3 % 64 ∧ b0 % 8 * 262144 + b1 % 64 * 4096 + b2 % 64 * 64 + b3 % 64 ≤ 1114111))
     then (b0 % 8 * 262144 + b1 % 64 * 4096 + b2 % 64 * 64 + b3 % 64, 4) else (65533, 1) := by
          unfold decodeN
          rw [if_neg h128, if_neg (by omega), if_neg (by omega), if_pos ⟨by omega, ⟨n1, c1⟩, ⟨n2, c2⟩, n3, c3⟩]
        rw [hd]
        clear hd
        generalize b0 % 8 * 262144 + b1 % 64 * 4096 + b2 % 64 * 64 + b3 % 64 = N at *
        by_cases g1 : N ≥ 65536 ∧ (N < 55296 ∨ 57344 ≤ N ∧ N ≤ 1114111)
        · rw [if_pos g1, if_pos (by omega), if_pos (by omega)]; simp
        · rw [if_neg g1]
          by_cases g2 : (N : Int) ≥ 65536
          · rw [if_pos g2, if_neg (by omega)]; simp
          · rw [if_neg g2]; simp
      · have hj2 : (if (b0 : Int) ≥ 240 then (if (b0 : Int) ≤ 244 then ((budwoodref02_more.f s 1).bind fun t113 => (if t113 = true then ((budwoodref02_more.f s 2).bind fun t114 => (if t114 = true then ((budwoodref02_more.f s 3).bind fun t115 => (budwoodref02_One.j2 (k + 1) s (b0 : Int) t115)) else (budwoodref02_One.j2 (k + 1) s (b0 : Int) false))) else (budwoodref02_One.j2 (k + 1) s (b0 : Int) false))) else (budwoodref02_One.j2 (k + 1) s (b0 : Int) false)) else (budwoodref02_One.j2 (k + 1) s (b0 : Int) false)) = budwoodref02_One.j2 (k + 1) s (b0 : Int) false := by
          split
          · split
            · rw [m1]
              simp only [Option.bind_some]
              split
              · rename_i ht
                rw [m2]
                simp only [Option.bind_some]
                split
                · rename_i ht2
                  rw [m3]
                  simp only [Option.bind_some]
                  congr 1
                  simp only [Bool.and_eq_true, decide_eq_true_eq] at ht ht2
                  rw [Bool.and_eq_false_iff]
                  by_cases a : 3 < s.size
                  · exact .inr (decide_eq_false (by omega))
                  · exact .inl (decide_eq_false a)
                · rfl
              · rfl
            · rfl
          · rfl
        rw [hj2]
        clear hj2
        simp only [budwoodref02_One.j2, Bool.false_eq_true, if_false]
        have hd : decodeN s.size b0 b1 b2 b3 = (65533, 1) := by
          unfold decodeN
          rw [if_neg h128]
          split
          · rw [if_neg (by omega)]
          · split
            · omega
            · split
              · rw [if_neg (by omega)]
              · rfl
        rw [hd]
        simp
end Go.Proofs.YtlgmboaoemlnpaaDoor.Nm
