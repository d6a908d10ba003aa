/-
  The Lean functions of the library's and the program's functions whose contracts are proved by hand: 'none' where the contract does not reach.
-/
import Derived.Test.YtjhifhnjkpoofaaDoorM0
import Derived.Lib.ItoaNum
import Derived.Lib.IndexMore
import Derived.Lib.Split
import Derived.Lib.AtoiAll
namespace Go.Proofs.YtjhifhnjkpoofaaDoor.M

def strconv_Itoa.f (a0 : Int) : Option ByteArray :=
  if -9223372036854775808 ≤ a0 ∧ a0 ≤ 9223372036854775807 then some ⟨(Lib.itoa a0).toArray⟩ else none

def strings_Cut.f (a0 a1 : ByteArray) : Option (ByteArray × ByteArray × Bool) :=
  if a0.size < 4294967281 then
    some (⟨(Lib.cut a0.data.toList a1.data.toList).1.toArray⟩, ⟨(Lib.cut a0.data.toList a1.data.toList).2.1.toArray⟩, (Lib.cut a0.data.toList a1.data.toList).2.2)
  else none

def strings_Split.f (a0 a1 : ByteArray) : Option (List ByteArray) :=
  if a0.size < 4294967281 ∧ 1 ≤ a1.size then some (Lib.splitB a1 0 (Lib.countB a0 a1) a0) else none

/-- The number that a string denotes, if it is written as Go writes it. -/
def canon (s : ByteArray) : Option Int :=
  match Lib.atoiAll s.data.toList with
  | .ok v => if Lib.itoa v = s.data.toList then some v else none
  | _ => none
def canons : List ByteArray → Option (List Int)
  | [] => some []
  | s :: l => match canon s, canons l with
    | some v, some vs => some (v :: vs)
    | _, _ => none
def logbook_readNumbers.f (l0 : List ByteArray) : Option (List Int × Bool) :=
  if l0.length < 1000000 ∧ ∀ s ∈ l0, s.size ≤ 1000000 then
    some (match canons l0 with
      | some vs => (vs, true)
      | none => ([], false))
  else none

/-- The error of an entry alone. -/
def errOf (x : S37) : Int :=
  if ¬ (1 ≤ x.f0 ∧ x.f0 ≤ 4) then 8
  else if ¬ (0 ≤ x.f1 ∧ x.f1 ≤ 23 ∧ 0 ≤ x.f2 ∧ x.f2 ≤ 23 ∧ 0 ≤ x.f3 ∧ x.f3 ≤ 2147483647 ∧ -4503599627370496 ≤ x.f4 ∧ x.f4 ≤ 4503599627370496 ∧ -4503599627370496 ≤ x.f5 ∧ x.f5 ≤ 4503599627370496) then 3
  else if (¬ (x.f0 = 1 ∨ x.f0 = 2) ∧ (x.f2 ≠ 0 ∨ x.f3 ≠ 0)) ∨ (x.f0 ≠ 3 ∧ x.f5 ≠ 0) then 7
  else if (x.f0 = 1 ∨ x.f0 = 2) ∧ x.f1 = x.f2 then 7 else 0
def firstErr : List S37 → Int
  | [] => 0
  | x :: l => if errOf x = 0 then firstErr l else errOf x
def nameOf (x : S37) : Int × Int × Int × Int := (x.f0, x.f1, x.f2, x.f3)
def seenIn (pre : List S37) (k : Int × Int × Int × Int) : Bool := pre.any fun y => nameOf y == k
def lastAt (pre : List S37) (n : Int) : Option S37 := pre.find? fun y => y.f1 == n
/-- The error of the rest of a log; pre: what stands before, the nearest first. -/
def chkFrom : List S37 → List S37 → Int
  | _, [] => 0
  | pre, x :: l =>
    if (x.f0 = 1 ∨ x.f0 = 2) ∧ seenIn pre (nameOf x) = true then 10
    else match lastAt pre x.f1 with
      | some b => if b.f0 ≠ 3 ∧ x.f4 < b.f4 then 12 else chkFrom (x :: pre) l
      | none => chkFrom (x :: pre) l
def chk (l : List S37) : Int := if l.length > 512 then 6 else if firstErr l = 0 then chkFrom [] l else firstErr l
def logbook_Check.f (l0 : List S37) : Option Int := some (chk l0)

/-- Where a message was sent, at or behind index i. -/
def sentFrom : List S37 → Int → Option Int → Int × Int × Int → Option Int
  | [], _, r, _ => r
  | x :: l, i, r, k => sentFrom l (i + 1) (if x.f0 = 1 ∧ (x.f1, x.f2, x.f3) = k then some i else r) k
def pairsFrom (g : Int × Int × Int → Option Int) : List S37 → Int → List S33
  | [], _ => []
  | x :: l, i =>
    if x.f0 = 2 then
      match g (x.f2, x.f1, x.f3) with
      | some k => ⟨k, i⟩ :: pairsFrom g l (i + 1)
      | none => pairsFrom g l (i + 1)
    else pairsFrom g l (i + 1)
def logbook_Pairs.f (l0 : List S37) : Option (List S33) := some (if chk l0 = 0 then pairsFrom (sentFrom l0 0 none) l0 0 else [])

def slices_Equal_2_int_2_int.f (l0 l1 : List S33) : Option Bool := some ((l0.map fun x => (x.f0, x.f1)) == (l1.map fun x => (x.f0, x.f1)))

/-- The entry that a line denotes. -/
def wordsOf : List UInt8 → List UInt8 → List ByteArray
  | [], acc => [⟨acc.toArray⟩]
  | c :: l, acc => if c = 32 then ⟨acc.toArray⟩ :: wordsOf l [] else wordsOf l (acc ++ [c])
def entryOf : List ByteArray → Option S37
  | [] => none
  | w :: l =>
    match canons l with
    | none => none
    | some n =>
      if w.data.toList = [115, 101, 110, 100] ∧ n.length = 4 then some ⟨1, n.getD 0 0, n.getD 1 0, n.getD 2 0, n.getD 3 0, 0⟩
      else if w.data.toList = [114, 101, 99, 118] ∧ n.length = 4 then some ⟨2, n.getD 0 0, n.getD 1 0, n.getD 2 0, n.getD 3 0, 0⟩
      else if w.data.toList = [115, 116, 101, 112] ∧ n.length = 3 then some ⟨3, n.getD 0 0, 0, 0, n.getD 1 0, n.getD 2 0⟩
      else if w.data.toList = [109, 97, 114, 107] ∧ n.length = 2 then some ⟨4, n.getD 0 0, 0, 0, n.getD 1 0, 0⟩
      else none
def timesyncref50_entry.f (a0 : ByteArray) : Option (Int × Int × Int × Int × Int × Int × Bool) :=
  if a0.size ≤ 100000 then
    some (match entryOf (wordsOf a0.data.toList []) with
      | some x => (x.f0, x.f1, x.f2, x.f3, x.f4, x.f5, true)
      | none => (0, 0, 0, 0, 0, 0, false))
  else none

def spc : ByteArray := ⟨#[32]⟩
def wordsL (a : ByteArray) : List ByteArray := Lib.splitB spc 0 (Lib.countB a spc) a
def outL (a : ByteArray) : S37 × Bool := match entryOf (wordsL a) with
  | some x => (x, true)
  | none => (⟨0, 0, 0, 0, 0, 0⟩, false)
def logbook_readLine.f (a0 : ByteArray) : Option (Int × Int × Int × Int × Int × Int × Bool) :=
  if a0.size ≤ 100000 then some ((outL a0).1.f0, (outL a0).1.f1, (outL a0).1.f2, (outL a0).1.f3, (outL a0).1.f4, (outL a0).1.f5, (outL a0).2) else none

/-- The line of an entry. -/
def lineOf (x : S37) : List UInt8 :=
  (if x.f0 = 1 then [115, 101, 110, 100] else if x.f0 = 2 then [114, 101, 99, 118] else if x.f0 = 3 then [115, 116, 101, 112] else [109, 97, 114, 107]) ++
  32 :: Lib.itoa x.f1 ++
  (if x.f0 = 1 ∨ x.f0 = 2 then 32 :: Lib.itoa x.f2 ++ 32 :: Lib.itoa x.f3 else []) ++
  32 :: Lib.itoa x.f4 ++
  (if x.f0 = 3 then 32 :: Lib.itoa x.f5 else []) ++ [10]
def logbook_Text.f (l0 : List S37) : Option (ByteArray × Int) :=
  some (if chk l0 = 0 then (⟨(l0.flatMap lineOf).toArray⟩, 0) else (⟨#[]⟩, 2))

end Go.Proofs.YtjhifhnjkpoofaaDoor.M
