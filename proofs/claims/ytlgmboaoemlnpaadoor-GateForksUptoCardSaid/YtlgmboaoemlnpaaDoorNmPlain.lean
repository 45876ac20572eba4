import Derived.Shelf.Unicode.DecodeAny
import Derived.Lib.ConvBytes
import Derived.WalkKit
import Derived.Test.YtlgmboaoemlnpaaDoorV
/- Names: what the hand-made contracts say, in plain Lean. No program. -/
namespace Go.Proofs.YtlgmboaoemlnpaaDoor.Nm
open Go.Lib Go.RowKit Go.Proofs.YtlgmboaoemlnpaaDoorW.PrintWords

/-- How many runes stand from place pos on, by at most so many rounds. -/
def runesFrom (s : ByteArray) : Nat → Nat → Int → Int
  | 0, _, n => n
  | f + 1, pos, n => if pos < s.size then runesFrom s f (pos + (Utf8.decode s pos).2) (wrap64 (n + 1)) else n
def runes (s : ByteArray) : Int := runesFrom s s.size 0 0

/-- A version's digits. -/
def verFrom (s : ByteArray) : Nat → Nat → Int → Int
  | 0, _, n => n
  | f + 1, pos, n => if pos < s.size then (if ((Utf8.decode s pos).1 : Int) < 48 ∨ 57 < ((Utf8.decode s pos).1 : Int) then 0 else verFrom s f (pos + (Utf8.decode s pos).2) (wrap64 (wrap64 (10 * n) + (((Utf8.decode s pos).1 : Int) - 48)))) else n
def ver (s : ByteArray) : Int := if s.size = 0 ∨ 3 < s.size ∨ (s.get! 0).toNat = 48 then 0 else verFrom s s.size 0 0

def letter (r : Int) (wrong : Bool) : Bool := (decide (97 ≤ r) && decide (r ≤ 122)) || (decide (65 ≤ r) && decide (r ≤ 90)) || (decide (128 ≤ r) && !wrong)
/-- Is the rune at place pos a wrong one (one byte that begins no rune)? -/
def wrongAt (s : ByteArray) (pos : Nat) : Bool := decide (((Utf8.decode s pos).1 : Int) = 65533) && decide ((decodeGo (s.extract pos s.size)).2 = 1)
def badAt (s : ByteArray) (pos : Nat) : Bool :=
  !(letter ((Utf8.decode s pos).1 : Int) (wrongAt s pos)) && (decide (pos = 0) || (!decide (((Utf8.decode s pos).1 : Int) = 95) && (decide (((Utf8.decode s pos).1 : Int) < 48) || decide (57 < ((Utf8.decode s pos).1 : Int)))))
def stemFrom (s : ByteArray) : Nat → Nat → Bool
  | 0, _ => !s.data.toList.isEmpty
  | f + 1, pos => if pos < s.size then (if badAt s pos then false else stemFrom s f (pos + (Utf8.decode s pos).2)) else !s.data.toList.isEmpty
def stem (s : ByteArray) : Bool := stemFrom s s.size 0

def foldI (c : Int) : Int := if 65 ≤ c ∧ c ≤ 90 then Go.bits .or .u8 c 32 else c
def fold (s : ByteArray) : ByteArray := strOfNums ((bytesOf s).map foldI)

theorem runesFrom_end (s : ByteArray) (f pos : Nat) (n : Int) (h : ¬ pos < s.size) : runesFrom s f pos n = n := by cases f <;> simp [runesFrom, h]
theorem verFrom_end (s : ByteArray) (f pos : Nat) (n : Int) (h : ¬ pos < s.size) : verFrom s f pos n = n := by cases f <;> simp [verFrom, h]
theorem stemFrom_end (s : ByteArray) (f pos : Nat) (h : ¬ pos < s.size) : stemFrom s f pos = !s.data.toList.isEmpty := by cases f <;> simp [stemFrom, h]
end Go.Proofs.YtlgmboaoemlnpaaDoor.Nm
