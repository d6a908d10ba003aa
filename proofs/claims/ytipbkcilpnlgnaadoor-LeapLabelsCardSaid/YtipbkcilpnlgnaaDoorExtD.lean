/-
  The Lean functions of leap.Text and leap.Parse, whose contracts are proved by hand.
-/
import Derived.Test.YtipbkcilpnlgnaaDoorMC
namespace Go.Proofs.YtipbkcilpnlgnaaDoor.M
/-- What stands before the first c, what behind it, and whether there is one. -/
def cutB (c : UInt8) : List UInt8 → List UInt8 × List UInt8 × Bool
  | [] => ([], [], false)
  | b :: l => if b = c then ([], l, true) else (b :: (cutB c l).1, (cutB c l).2.1, (cutB c l).2.2)
/-- The pieces between the c's. -/
def wordsC (c : UInt8) : List UInt8 → List (List UInt8)
  | [] => [[]]
  | b :: l => if b = c then [] :: wordsC c l else (b :: (wordsC c l).headD []) :: (wordsC c l).tail
def blankB (c : UInt8) : Bool := c == 32 || c == 9
/-- The words between blanks; acc: the word under way. -/
def fieldsB : List UInt8 → List UInt8 → List (List UInt8)
  | acc, [] => if acc = [] then [] else [acc]
  | acc, b :: l => if blankB b = true then (if acc = [] then fieldsB [] l else acc :: fieldsB [] l) else fieldsB (acc ++ [b]) l
/-- The numbers of words behind acc: at most two, each as Go writes it. -/
def numsB : List Int → List (List UInt8) → Option (List Int)
  | acc, [] => some acc
  | acc, w :: l => match canon ⟨w.toArray⟩ with
    | some n => if acc.length = 2 then none else numsB (acc ++ [n]) l
    | none => none
def lineNums (s : List UInt8) : Option (List Int) := numsB [] (fieldsB [] s)
/-- What has been read of a table. -/
structure Rd where
  base : Int
  exp : Int
  ent : List S44
  kE : Bool
  kB : Bool
def headNum (s : List UInt8) (known : Bool) : Option Int :=
  match lineNums s with
  | some [n] => if known = true then none else some n
  | _ => none
def stepLine (r : Rd) (s : List UInt8) : Option Rd :=
  if s.take 2 = [35, 64] ∧ s.length > 2 ∧ blankB (s.getD 2 0) = true then
    match headNum (s.drop 2) r.kE with
    | some n => some { r with exp := n, kE := true }
    | none => none
  else if s.take 2 = [35, 61] ∧ s.length > 2 ∧ blankB (s.getD 2 0) = true then
    match headNum (s.drop 2) r.kB with
    | some n => some { r with base := n, kB := true }
    | none => none
  else
    match lineNums (cutB 35 s).1 with
    | some [] => some r
    | some [a, b] => some { r with ent := r.ent ++ [⟨a, b⟩] }
    | _ => none
def readLines : Rd → List (List UInt8) → Option Rd
  | r, [] => some r
  | r, s :: l => match stepLine r s with
    | some r' => readLines r' l
    | none => none
def leap_Parse.f (a0 : ByteArray) : Option (Int × Int × List S44 × Int) :=
  if a0.size ≤ 1000000 then
    match readLines ⟨0, 0, [], false, false⟩ (wordsC 10 a0.data.toList) with
    | none => some (0, 0, [], 19)
    | some r =>
      if r.kE = true ∧ r.kB = true then
        (leap_Check.f 1000 r.base r.exp r.ent).bind fun e => if e = 0 then some (r.base, r.exp, r.ent, 0) else some (0, 0, [], e)
      else some (0, 0, [], 11)
  else none
def entLine (x : S44) : List UInt8 := Lib.itoa x.f0 ++ 32 :: Lib.itoa x.f1 ++ [10]
def tableText (b e : Int) (l : List S44) : List UInt8 := [35, 64, 32] ++ Lib.itoa e ++ [10, 35, 61, 32] ++ Lib.itoa b ++ [10] ++ l.flatMap entLine
def leap_Text.f (a0 a1 : Int) (l : List S44) : Option ByteArray :=
  (leap_Check.f 1000 a0 a1 l).bind fun e => if e = 0 then some ⟨(tableText a0 a1 l).toArray⟩ else some ⟨#[]⟩
end Go.Proofs.YtipbkcilpnlgnaaDoor.M
