/-
  The Lean functions of the library's and the program's functions whose contracts are proved by hand: 'none' where the contract does not reach.
-/
import Derived.Lib.ItoaNum
import Derived.Lib.Repeat
import Derived.Lib.IndexMore
namespace Go.Proofs.YtdhoidhbhkgfgaaDoor.M

def strconv_Itoa.f (a0 : Int) : Option ByteArray :=
  if -9223372036854775808 ≤ a0 ∧ a0 ≤ 9223372036854775807 then some ⟨(Lib.itoa a0).toArray⟩ else none

def strings_Repeat.f (a0 : ByteArray) (a1 : Int) : Option ByteArray :=
  if 0 ≤ a1 ∧ a1 ≤ 1000000 ∧ a0.size ≤ 1000 then some ⟨(Lib.repeatL a0.data.toList a1.toNat).toArray⟩ else none

def strings_Cut.f (a0 a1 : ByteArray) : Option (ByteArray × ByteArray × Bool) :=
  if a0.size < 4294967281 then
    some (⟨(Lib.cut a0.data.toList a1.data.toList).1.toArray⟩, ⟨(Lib.cut a0.data.toList a1.data.toList).2.1.toArray⟩, (Lib.cut a0.data.toList a1.data.toList).2.2)
  else none

/-- The bytes of a number, the most significant one first. -/
def bytes6 (n : Int) : List Int := [n / 1099511627776, n / 4294967296 % 256, n / 16777216 % 256, n / 65536 % 256, n / 256 % 256, n % 256]
def bytes4 (n : Int) : List Int := [n / 16777216, n / 65536 % 256, n / 256 % 256, n % 256]

def wire_Append.f (l0 : List Int) (a1 : Int) (a2 : Int) : Option (List Int × Int) :=
  if a2 = 6 ∧ l0 = [] ∧ 0 ≤ a1 ∧ a1 < 281474976710656 then some (bytes6 a1, 0)
  else if a2 = 4 ∧ l0.length = 6 ∧ 0 ≤ a1 ∧ a1 < 4294967296 then some (l0 ++ bytes4 a1, 0)
  else none

/-- The number of a string of digits, from a number on; -1 if there is another byte. -/
def numFrom : List UInt8 → Int → Int
  | [], n => n
  | c :: r, n => if c.toNat < 48 ∨ 57 < c.toNat then -1 else numFrom r (10 * n + (c.toNat - 48))

def ptime_number.f (a0 : ByteArray) : Option Int := if a0.size ≤ 15 then some (numFrom a0.data.toList 0) else none

def num6 (l : List Int) : Int := ((((l.getD 0 0 * 256 + l.getD 1 0) * 256 + l.getD 2 0) * 256 + l.getD 3 0) * 256 + l.getD 4 0) * 256 + l.getD 5 0
def num4 (l : List Int) : Int := ((l.getD 6 0 * 256 + l.getD 7 0) * 256 + l.getD 8 0) * 256 + l.getD 9 0

def ptime_Decode.f (l0 : List Int) : Option (Int × Int × Int) :=
  if l0.length < 10 then some (0, 0, 5)
  else if 10 < l0.length then some (0, 0, 6)
  else if ∀ x ∈ l0, 0 ≤ x ∧ x < 256 then
    if num4 l0 ≥ 1000000000 then some (0, 0, 3) else some (num6 l0, num4 l0, 0)
  else none

/-- Long division by a positive number, of a number times 1: rounded down. -/
def timesyncref01_MulDiv.f (a0 a1 a2 : Int) : Option (Int × Bool) :=
  if a1 = 1 ∧ 0 < a2 ∧ a2 ≤ 9223372036854775807 ∧ -9223372036854775808 ≤ a0 ∧ a0 ≤ 9223372036854775807 then some (a0 / a2, true) else none

end Go.Proofs.YtdhoidhbhkgfgaaDoor.M
