import Derived.Test.YtlgmboaoemlnpaaDoorAbG9
import Derived.Test.YtlgmboaoemlnpaaDoorAbG12
/- Gates: a law's contract in the row's words. -/
namespace Go.Abs
set_option linter.unusedSimpArgs false
set_option linter.unusedVariables false
open Go.Proofs Go.RowKit Go.Proofs.YtlgmboaoemlnpaaDoor Go.Proofs.YtlgmboaoemlnpaaDoor.P Go.Proofs.YtlgmboaoemlnpaaDoorW.PrintWords
theorem forks_calls {w : World} {A A' : Option Addr} {l l' : List S43} {c c' : Nat} (hr : Kd.C k43 w A l.length l) (hc : l.length ≤ c) (hr' : Kd.C k43 w A' l'.length l') (hc' : l'.length ≤ c')
    (hg : ∀ y ∈ l, 0 ≤ y.f0 ∧ y.f1.f0.size ≤ 1048576) (hg' : ∀ y ∈ l', 0 ≤ y.f0 ∧ y.f1.f0.size ≤ 1048576) (hG : Glob w) (hsh : w.ShapedOpen Tryd.prog) :
    Calls Tryd.prog 7 #[.slice A l.length c, .slice A' l'.length c'] w fun e w' => e = .returned (.bool true) ∧ Below w.heap.size w w' :=
  AC.law (argv := [.slice A l.length c, .slice A' l'.length c']) (forks_c (glob_held hG) (Sub.refl _) (steps_ok hg) (steps_ok hg')) Tryd.func7 rfl rfl ⟨_, _, rfl, row43 hr hc hsh, _, _, rfl, row43 hr' hc' hsh, rfl⟩
end Go.Abs
