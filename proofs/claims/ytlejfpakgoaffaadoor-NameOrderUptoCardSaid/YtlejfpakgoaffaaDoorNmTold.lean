import Derived.Test.YtlejfpakgoaffaaDoorNmHand
import Derived.Lib.ItoaNum
import Derived.IntWalk
/- Names: the reference's digits (it calls itself in a region that draws its order): by hand. -/
namespace Go.Proofs.YtlejfpakgoaffaaDoor
open Go.RowKit Go.Lib Go.Proofs.YtlejfpakgoaffaaDoorW.PrintWords

def digs : ByteArray := ⟨#[48, 49, 50, 51, 52, 53, 54, 55, 56, 57]⟩
namespace Nm
def told : Nat → Nat → ByteArray
  | 0, _ => ⟨#[]⟩
  | f + 1, n => if n < 10 then digs.extract n (n + 1) else told f (n / 10) ++ digs.extract (n % 10) (n % 10 + 1)
theorem told_size : ∀ f n, (told f n).size ≤ f
  | 0, _ => Nat.le_refl _
  | f + 1, n => by
    unfold told
    split
    · rw [ByteArray.size_extract]; omega
    · have := told_size f (n / 10)
      rw [ByteArray.size_append, ByteArray.size_extract]; omega
end Nm
set_option maxHeartbeats 400000 in
set_option maxRecDepth 100000 in
theorem told_calls : ∀ (f n : Nat) (w : World), n < 10 ^ f → f ≤ 18 → 0 < f →
    Calls Tryd.prog 33 #[.int .i64 (n : Int)] w fun e w' => e = .returned (.string (Nm.told f n)) ∧ ∃ q, w' = w.drewN q := by
  intro f
  induction f with
  | zero => intro n w h _ h0; omega
  | succ f ih =>
    intro n w h hf _
    have hp : 10 ^ (f + 1) ≤ 10 ^ 18 := Nat.pow_le_pow_right (by decide) hf
    have hn : n < 1000000000000000000 := by omega
    by_cases h10 : n < 10
    · have e1 : decide ((n : Int) < 10) = true := decide_eq_true (by omega)
      have e2 : wrap64 ((n : Int) + 1) = (n : Int) + 1 := by unfold wrap64; omega
      have hv : Nm.told (f + 1) n = digs.extract n (n + 1) := by simp [Nm.told, h10]
      have HV := Lib.hid hv
      clear hv hp h ih e2
      have hsl : ∀ W, (Instr.slice 9 (.string ⟨#[48, 49, 50, 51, 52, 53, 54, 55, 56, 57]⟩) (some (.int .i64 (n : Int))) (some (.int .i64 ((n : Int) + 1))) none).run Tryd.prog W = .ok (.string (digs.extract n (n + 1))) W := fun W =>
        run_slice_string W 9 digs .i64 .i64 n (n + 1) Tryd.underlying9 (by omega) (by omega) (by show (n : Int) + 1 ≤ 10; omega)
      go_enter Tryd.func33, Tryd.ntmps33
      go_wp2
      go_ret
      exact ⟨by rw [HV.out]; rfl, 0, rfl⟩
    · have e1 : decide ((n : Int) < 10) = false := decide_eq_false (by omega)
      have E1 := Lib.hid e1
      have hf0 : 0 < f := by
        rcases Nat.eq_zero_or_pos f with h0 | h0
        · subst h0; simp at h; omega
        · exact h0
      have hdiv : n / 10 < 10 ^ f := by
        rw [Nat.pow_succ] at h
        omega
      have hc := fun w => ih (n / 10) w hdiv (by omega) hf0
      have hv : Nm.told (f + 1) n = Nm.told f (n / 10) ++ digs.extract (n % 10) (n % 10 + 1) := by simp [Nm.told, h10]
      have hs := Nm.told_size f (n / 10)
      have HC := Lib.hid hc
      have HV := Lib.hid hv
      obtain ⟨d, hd⟩ : ∃ d, n / 10 = d := ⟨_, rfl⟩
      obtain ⟨m, hm⟩ : ∃ m, n % 10 = m := ⟨_, rfl⟩
      have hm10 : m < 10 := by omega
      have q1 : IntKind.i64.wrap ((n : Int).tdiv 10) = (d : Int) := by rw [Int.tdiv_eq_ediv_of_nonneg (by omega), IntKind.wrap_i64]; omega
      have q4 : wrap64 ((n : Int) / 10) = (d : Int) := by unfold wrap64; omega
      have q5 : IntKind.i64.wrap ((n : Int) / 10) = (d : Int) := by rw [IntKind.wrap_i64]; omega
      have q6 : (n : Int) % 10 = (m : Int) := by omega
      have q2 : (n : Int).tmod 10 = (m : Int) := by rw [Int.tmod_eq_emod_of_nonneg (by omega)]; omega
      have q3 : IntKind.i64.wrap ((m : Int) + 1) = (m : Int) + 1 := by rw [IntKind.wrap_i64]; omega
      rw [hd] at hs HC
      rw [hd, hm] at HV
      obtain ⟨T, hT⟩ : ∃ T, Nm.told f d = T := ⟨_, rfl⟩
      rw [hT] at hs HC HV
      have m0 : (0 : Int) ≤ (m : Int) := by omega
      have m1 : (m : Int) ≤ (m : Int) + 1 := by omega
      have m2 : (m : Int) + 1 ≤ 10 := by omega
      have m3 : T.size + ((m + 1) - m) ≤ 9223372036854775807 := by omega
      have hsl : ∀ W, (Instr.slice 9 (.string ⟨#[48, 49, 50, 51, 52, 53, 54, 55, 56, 57]⟩) (some (.int .i64 (m : Int))) (some (.int .i64 ((m : Int) + 1))) none).run Tryd.prog W = .ok (.string (digs.extract m (m + 1))) W := fun W =>
        run_slice_string W 9 digs .i64 .i64 m (m + 1) Tryd.underlying9 (by omega) (by omega) (by show (m : Int) + 1 ≤ 10; omega)
      have hds : (digs.extract m (m + 1)).size = 1 := by rw [ByteArray.size_extract]; show min (m + 1) 10 - m = 1; omega
      have hT1 : T.size + (digs.extract m (m + 1)).size ≤ 9223372036854775807 := by omega
      generalize digs.extract m (m + 1) = E at hsl HV hT1
      clear hds
      clear ih hp h hn hf hf0 h10 E1 hc hv hdiv
      go_enter Tryd.func33, Tryd.ntmps33
      go_wp2
      go_quiet ((go_at_call 33; refine (HC.out _).mono ?_; rintro e w' ⟨rfl, q, rfl⟩; exact ⟨rfl, _, World.drewN_drewN _ _ _⟩))
      go_wp2
      go_ret
      exact ⟨by rw [HV.out]; rfl, _, rfl⟩
def budwoodref02_Told.f (a0 : Int) : Option ByteArray := if 0 ≤ a0 ∧ a0 < 100000000000000000 then some (Nm.told 17 a0.toNat) else none
theorem budwoodref02_Told.calls (a0 : Int) (r : ByteArray) (w : World) (h : budwoodref02_Told.f a0 = some r) :
    Calls Tryd.prog 33 #[.int .i64 a0] w fun e w' => e = .returned (.string r) ∧ Below w.heap.size w w' := by
  unfold budwoodref02_Told.f at h
  split at h
  case isFalse => cases h
  rename_i hs
  obtain rfl := Option.some.inj h
  have c := told_calls 17 a0.toNat w (by omega) (by decide) (by decide)
  rw [Int.toNat_of_nonneg hs.1] at c
  refine c.mono ?_
  rintro e w' ⟨rfl, q, rfl⟩
  exact ⟨rfl, nm_drewN (Below.refl _ _) q⟩
end Go.Proofs.YtlejfpakgoaffaaDoor
