/-
  The Lean functions of the functions of the library and of layer 5 whose contracts are proved by hand: 'none' where the contract does not reach.
-/
import Derived.Test.YtipbkcilpnlgnaaDoorM0
import Derived.Lib.ItoaNum
import Derived.Lib.IndexMore
import Derived.Lib.AtoiAll
namespace Go.Proofs.YtipbkcilpnlgnaaDoor.M
def strconv_Itoa.f (a0 : Int) : Option ByteArray :=
  if -9223372036854775808 ≤ a0 ∧ a0 ≤ 9223372036854775807 then some ⟨(Lib.itoa a0).toArray⟩ else none
def strings_Cut.f (a0 a1 : ByteArray) : Option (ByteArray × ByteArray × Bool) :=
  if a0.size < 4294967281 then
    some (⟨(Lib.cut a0.data.toList a1.data.toList).1.toArray⟩, ⟨(Lib.cut a0.data.toList a1.data.toList).2.1.toArray⟩, (Lib.cut a0.data.toList a1.data.toList).2.2)
  else none
/-- The number that a word denotes, if it is written as Go writes it. -/
def canon (s : ByteArray) : Option Int :=
  match Lib.atoiAll s.data.toList with
  | .ok v => if Lib.itoa v = s.data.toList then some v else none
  | _ => none
def daysOf (m : Int) : Int := [(31 : Int), 28, 31, 30, 31, 30, 31, 31, 30, 31, 30, 31].getD (m - 1).toNat 0
def monthDays (y m : Int) : Int :=
  if m < 1 ∨ m > 12 then 0
  else if m = 2 ∧ Int.tmod y 4 = 0 ∧ (Int.tmod y 100 ≠ 0 ∨ Int.tmod y 400 = 0) then 29
  else daysOf m
def civil_MonthDays.f (a0 a1 : Int) : Option Int := some (monthDays a0 a1)
def outP (n lo hi : Int) : Bool := decide (n < lo) || decide (n > hi)
def civilErr (y m d h mi s n : Int) : Int :=
  if outP y 1600 2200 || (outP m 1 12 || outP d 1 (monthDays y m)) then 3
  else if outP h 0 23 || (outP mi 0 59 || (outP s 0 59 || outP n 0 999999999)) then 3
  else 0
def civil_Check.f (a0 a1 a2 a3 a4 a5 a6 : Int) : Option Int := some (civilErr a0 a1 a2 a3 a4 a5 a6)
/-- The parts of a second: the day from 0000-03-01 on, the cycle of 400 years, the day in it, the year in it, the day of that year, the month from March on. -/
def ofD (s : Int) : Int := s / 86400 + 693901
def ofC (s : Int) : Int := ofD s / 146097
def ofE (s : Int) : Int := ofD s % 146097
def ofY (s : Int) : Int := (ofE s - ofE s / 1460 + ofE s / 36524 - ofE s / 146096) / 365
def ofF (s : Int) : Int := ofE s - (365 * ofY s + ofY s / 4 - ofY s / 100)
def ofM (s : Int) : Int := (5 * ofF s + 2) / 153
def ofT (s : Int) : Int := s % 86400
def civil_Of.f (s : Int) : Option (Int × Int × Int × Int × Int × Int × Int × Int) :=
  if s < -8000000000 ∨ s > 8000000000 then some (0, 0, 0, 0, 0, 0, 0, 3)
  else if ofM s + 3 > 12 then some (400 * ofC s + ofY s + 1, ofM s + 3 - 12, ofF s - (153 * ofM s + 2) / 5 + 1, ofT s / 3600, ofT s / 60 % 60, ofT s % 60, 0, 0)
  else some (400 * ofC s + ofY s, ofM s + 3, ofF s - (153 * ofM s + 2) / 5 + 1, ofT s / 3600, ofT s / 60 % 60, ofT s % 60, 0, 0)
def secY (y m : Int) : Int := if m < 3 then y - 1 else y
def secM (m : Int) : Int := if m < 3 then m + 9 else m - 3
def secDay (y m d : Int) : Int := -693901 + 365 * secY y m + secY y m / 4 - secY y m / 100 + secY y m / 400 + (153 * secM m + 2) / 5 + d - 1
def secAt (y m d h mi s : Int) : Int := secDay y m d * 86400 + h * 3600 + mi * 60 + s
def civil_Seconds.f (y m d h mi s n : Int) : Option (Int × Int) :=
  if civilErr y m d h mi s n = 0 then
    (if secAt y m d h mi s < -8000000000 ∨ secAt y m d h mi s > 8000000000 then some (0, 3) else some (secAt y m d h mi s, 0))
  else some (0, civilErr y m d h mi s n)
end Go.Proofs.YtipbkcilpnlgnaaDoor.M
