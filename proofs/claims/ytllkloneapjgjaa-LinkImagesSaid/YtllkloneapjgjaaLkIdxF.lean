import Derived.Test.YtllkloneapjgjaaPx0
import Derived.Lib.SlBy
/- Link: what slices.IndexFunc tells with Word's own closure. -/
namespace Go.Proofs.Ytllkloneapjgjaa.P
open Go.RowKit Go.Proofs.YtllkloneapjgjaaW.PrintWords Go.Proofs.YtllkloneapjgjaaW.PrintLast Go.Proofs.YtllkloneapjgjaaW.PrintMore
instance : Inhabited S53 := ⟨z53⟩
def enc53 (x : S53) : List Value := [.int .u8 x.f0, .int .u16 x.f1, .int .u16 x.f2]
def isData (k : Int) : Bool := k == 4 || k == 5 || k == 6
def lkPred (at_ : Int) (code : Bool) (x : S53) : Bool := (wrap64 x.f1 == at_) && (isData x.f0 != code) && decide (x.f0 ≤ 7)
def idx_link_Word_1.f (l0 : List S53) (x0 : Int) (x1 : Bool) : Option Int := if l0.length ≤ 9223372036854775807 then some (Lib.idxBy (fun _ y => lkPred x0 x1 y) l0 z53) else none
end Go.Proofs.Ytllkloneapjgjaa.P
