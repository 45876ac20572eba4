import Derived.Test.YtlgmboaoemlnpaaDoorAbG8
import Derived.Test.YtlgmboaoemlnpaaDoorAbRow
import Derived.Test.YtlgmboaoemlnpaaDoorPx0
/- Gates: the laws' contracts in the rows' words. -/
namespace Go.Abs
set_option linter.unusedSimpArgs false
set_option linter.unusedVariables false
open Go.Proofs Go.RowKit Go.Proofs.YtlgmboaoemlnpaaDoor Go.Proofs.YtlgmboaoemlnpaaDoor.P Go.Proofs.YtlgmboaoemlnpaaDoorW.PrintWords
set_option linter.unusedVariables false
def bindOf (x : S31) : Bind := ⟨x.f0, x.f1, x.f2⟩
def stepOf (x : S43) : Int × Bind := (x.f0, bindOf x.f1)
def vals43 (x : S43) : List Value := [.int .u8 x.f0, .string x.f1.f0, .int .u16 x.f1.f1, .int .u32 x.f1.f2]
theorem vals_enc (l : List S43) : (l.map fun x => (vals43 x).map TV.s) = (l.map stepOf).map encS := by rw [List.map_map]; rfl
/-- No library variable holds a string. -/
theorem apart3 {w : World} (hsh : w.ShapedOpen Tryd.prog) : ∀ b, b < 3 → ∀ off s, w.cell? ⟨b, off, none⟩ ≠ some (.string s) := by
  intro b hb off s
  match b, hb with
  | 0, _ => exact no_string hsh (of_decide_eq_true (by kernel_rfl)) (t := 3) (by kernel_rfl) (by kernel_rfl) (n := 1) (e := 3) (by kernel_rfl) Tryd.underlying3 off s
  | 1, _ => exact no_string hsh (of_decide_eq_true (by kernel_rfl)) (t := 87) (by kernel_rfl) (by kernel_rfl) (n := 256) (e := 5) (by kernel_rfl) Tryd.underlying5 off s
  | 2, _ => exact no_string hsh (of_decide_eq_true (by kernel_rfl)) (t := 90) (by kernel_rfl) (by kernel_rfl) (n := 32) (e := 5) (by kernel_rfl) Tryd.underlying5 off s
theorem row43 {w : World} {A : Option Addr} {l : List S43} {c : Nat} (hr : Kd.C k43 w A l.length l) (hc : l.length ≤ c) (hsh : w.ShapedOpen Tryd.prog) : Rep w (Fr (heldAs w 3) w) (.vs 4 ((l.map stepOf).map encS)) (.slice A l.length c) := by
  rw [← vals_enc]
  refine rep_row (d := k43) (enc := vals43) (fun x => rfl) (by decide) (fun x cs h => k43_open h) hr hc fun b off x hx hcell => ?_
  have h1 : w.cell? ⟨b, off + 1, none⟩ = some (.string x.f1.f0) := hcell 1 _ rfl
  refine ⟨cell_lt' h1, heldAs_none ?_⟩
  rcases Nat.lt_or_ge b 3 with h | h
  · exact absurd h1 (apart3 hsh b h _ _)
  · exact h
theorem steps_ok {l : List S43} (h : ∀ y ∈ l, 0 ≤ y.f0 ∧ y.f1.f0.size ≤ 1048576) : StepsOk (l.map stepOf) := by
  intro s hs
  obtain ⟨y, hy, rfl⟩ := List.mem_map.1 hs
  exact ⟨(h y hy).1, by have := (h y hy).2; unfold szOk stepOf bindOf; simp only []; omega⟩
theorem plays_calls {w : World} {A : Option Addr} {l : List S43} {c : Nat} (hr : Kd.C k43 w A l.length l) (hc : l.length ≤ c) (hg : ∀ y ∈ l, 0 ≤ y.f0 ∧ y.f1.f0.size ≤ 1048576) (hG : Glob w) (hsh : w.ShapedOpen Tryd.prog) :
    Calls Tryd.prog 5 #[.slice A l.length c] w fun e w' => e = .returned (.bool true) ∧ Below w.heap.size w w' :=
  AC.law (argv := [.slice A l.length c]) (plays_c (glob_held hG) (Sub.refl _) (steps_ok hg)) Tryd.func5 rfl rfl ⟨_, _, rfl, row43 hr hc hsh, rfl⟩
end Go.Abs
