import Derived.Test.YtlgmboaoemlnpaaDoorGtArF
import Derived.Lib.SlBy
/- Gate: what find tells, closure by closure. -/
namespace Go.Proofs.YtlgmboaoemlnpaaDoor.P
open Go.RowKit Go.Proofs.YtlgmboaoemlnpaaDoorW.PrintWords Go.Proofs.YtlgmboaoemlnpaaDoorW.PrintLast Go.Proofs.YtlgmboaoemlnpaaDoorW.PrintMore
instance : Inhabited S31 := ⟨z31⟩
def enc31 (x : S31) : List Value := [.string x.f0, .int .u16 x.f1, .int .u32 x.f2]
def AR51.list (s : AR51) : List S31 := [s.e0, s.e1, s.e2, s.e3, s.e4, s.e5, s.e6, s.e7]
def isZ (x : S31) : Bool := x.f0.toList == ([] : List UInt8) && (x.f1 == 0 && (x.f2 == 0))
def pOf (m : ByteArray) (x : S31) : Bool := !isZ x && x.f0.toList == m.toList
def pOwned (o : Int) (x : S31) : Bool := x.f1 == o
def arIdx (p : S31 → Bool) (s : AR51) : Int := Lib.idxBy (fun _ y => p y) s.list z31
def gt_of.f (s : AR51) (m : ByteArray) : Option (Int × AR51) := some (arIdx (pOf m) s, s)
def gt_owned.f (s : AR51) (o : Int) : Option (Int × AR51) := some (arIdx (pOwned o) s, s)
def gt_free.f (s : AR51) : Option (Int × AR51) := some (arIdx isZ s, s)
end Go.Proofs.YtlgmboaoemlnpaaDoor.P
