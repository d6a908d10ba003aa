-- Written by a program of this session (the kit's printer, patched) out of the translation. Lean checks it.
-- squeezed: rows named (squeeze.py)
import Derived.Test.YtjhifhnjkpoofaaDoorM0
import Derived.Test.YtjhifhnjkpoofaaDoorExtD
namespace Go.Proofs.YtjhifhnjkpoofaaDoor.M
open Go.RowKit Go.Proofs.YtjhifhnjkpoofaaDoorG Go.Proofs.YtjhifhnjkpoofaaDoorW.PrintWords Go.Proofs.YtjhifhnjkpoofaaDoorW.PrintLast Go.Proofs.YtjhifhnjkpoofaaDoorW.PrintMore
attribute [local go_sem] max2_int min2_int max_two min_two max_three min_three max_four min_four   -- for this text's walks alone
set_option linter.unusedVariables false
set_option linter.unusedSimpArgs false

/-! ### logbook_message: function 23 -/
def logbook_message.f (a0_0 : Int) (a0_1 : Int) (a0_2 : Int) (a0_3 : Int) (a0_4 : Int) (a0_5 : Int) : Option (Bool) := if a0_0 = 1 then (some true) else (some (a0_0 == 2))

/-! ### logbook_within: function 36 -/
def logbook_within.f (a0 : Int) (a1 : Int) (a2 : Int) : Option (Bool) := if a1 ≤ a0 then (some (decide (a0 ≤ a2))) else (some false)

/-! ### logbook_checkEntry: function 22 -/
mutual
def logbook_checkEntry.j0 : Nat → Bool → Int → Int → Int → Int → Int → Int → Option (Int)
  | 0, _, _, _, _, _, _, _ => none
  | k + 1, x8, x103000, x103001, x103002, x103003, x103004, x103005 => if x8 = true then (some 3) else ((logbook_within.f x103004 (-4503599627370496) 4503599627370496).bind fun t107 => (if t107 = true then ((logbook_within.f x103005 (-4503599627370496) 4503599627370496).bind fun t108 => (logbook_checkEntry.j1 k (!t108) x103000 x103001 x103002 x103003 x103004 x103005)) else (logbook_checkEntry.j1 k true x103000 x103001 x103002 x103003 x103004 x103005)))
def logbook_checkEntry.j1 : Nat → Bool → Int → Int → Int → Int → Int → Int → Option (Int)
  | 0, _, _, _, _, _, _, _ => none
  | k + 1, x25, x103000, x103001, x103002, x103003, x103004, x103005 => if x25 = true then (some 3) else ((logbook_message.f x103000 x103001 x103002 x103003 x103004 x103005).bind fun t109 => (if t109 = true then (if x103000 = 3 then (logbook_checkEntry.j2 k false x103000 x103001 x103002 x103003 x103004 x103005) else (logbook_checkEntry.j2 k (x103005 != 0) x103000 x103001 x103002 x103003 x103004 x103005)) else (if x103002 = 0 then (if x103003 = 0 then (if x103000 = 3 then (logbook_checkEntry.j2 k false x103000 x103001 x103002 x103003 x103004 x103005) else (logbook_checkEntry.j2 k (x103005 != 0) x103000 x103001 x103002 x103003 x103004 x103005)) else (logbook_checkEntry.j2 k true x103000 x103001 x103002 x103003 x103004 x103005)) else (logbook_checkEntry.j2 k true x103000 x103001 x103002 x103003 x103004 x103005))))
def logbook_checkEntry.j2 : Nat → Bool → Int → Int → Int → Int → Int → Int → Option (Int)
  | 0, _, _, _, _, _, _, _ => none
  | k + 1, x36, x103000, x103001, x103002, x103003, x103004, x103005 => if x36 = true then (some 7) else ((logbook_message.f x103000 x103001 x103002 x103003 x103004 x103005).bind fun t110 => (if t110 = true then (if x103001 = x103002 then (some 7) else (some 0)) else (some 0)))
end
def logbook_checkEntry.f (k : Nat) (a0_0 : Int) (a0_1 : Int) (a0_2 : Int) (a0_3 : Int) (a0_4 : Int) (a0_5 : Int) : Option (Int) := (logbook_within.f a0_0 1 4).bind fun t103 => (if t103 = true then ((logbook_within.f a0_1 0 23).bind fun t104 => (if t104 = true then ((logbook_within.f a0_2 0 23).bind fun t105 => (if t105 = true then ((logbook_within.f a0_3 0 2147483647).bind fun t106 => (logbook_checkEntry.j0 k (!t106) a0_0 a0_1 a0_2 a0_3 a0_4 a0_5)) else (logbook_checkEntry.j0 k true a0_0 a0_1 a0_2 a0_3 a0_4 a0_5))) else (logbook_checkEntry.j0 k true a0_0 a0_1 a0_2 a0_3 a0_4 a0_5))) else (some 8))
theorem logbook_checkEntry.mono_l : ∀ k, (∀ y0 y1 y2 y3 y4 y5 y6, LeO (logbook_checkEntry.j0 k y0 y1 y2 y3 y4 y5 y6) (logbook_checkEntry.j0 (k + 1) y0 y1 y2 y3 y4 y5 y6)) ∧ (∀ y0 y1 y2 y3 y4 y5 y6, LeO (logbook_checkEntry.j1 k y0 y1 y2 y3 y4 y5 y6) (logbook_checkEntry.j1 (k + 1) y0 y1 y2 y3 y4 y5 y6)) ∧ (∀ y0 y1 y2 y3 y4 y5 y6, LeO (logbook_checkEntry.j2 k y0 y1 y2 y3 y4 y5 y6) (logbook_checkEntry.j2 (k + 1) y0 y1 y2 y3 y4 y5 y6))
  | 0 => ⟨fun _ _ _ _ _ _ _ r h => by simp [logbook_checkEntry.j0] at h, fun _ _ _ _ _ _ _ r h => by simp [logbook_checkEntry.j1] at h, fun _ _ _ _ _ _ _ r h => by simp [logbook_checkEntry.j2] at h⟩
  | k + 1 => by
    obtain ⟨ih0, ih1, ih2⟩ := logbook_checkEntry.mono_l k
    refine ⟨?_, ?_, ?_⟩
    · intro y0 y1 y2 y3 y4 y5 y6
      unfold logbook_checkEntry.j0
      repeat' first
      | (with_reducible exact ih0 _ _ _ _ _ _ _)
      | (with_reducible exact ih1 _ _ _ _ _ _ _)
      | (with_reducible exact ih2 _ _ _ _ _ _ _)
      | (with_reducible exact LeO.refl _)
      | (with_reducible exact LeO.none _)
      | (with_reducible refine LeO.ite ?_ ?_)
      | (with_reducible refine LeO.bind ?_ (fun _ => ?_))
      | exact ih0 _ _ _ _ _ _ _
      | exact ih1 _ _ _ _ _ _ _
      | exact ih2 _ _ _ _ _ _ _
      | exact LeO.none _
      | refine LeO.ite ?_ ?_
      | refine LeO.bind ?_ (fun _ => ?_)
    · intro y0 y1 y2 y3 y4 y5 y6
      unfold logbook_checkEntry.j1
      repeat' first
      | (with_reducible exact ih0 _ _ _ _ _ _ _)
      | (with_reducible exact ih1 _ _ _ _ _ _ _)
      | (with_reducible exact ih2 _ _ _ _ _ _ _)
      | (with_reducible exact LeO.refl _)
      | (with_reducible exact LeO.none _)
      | (with_reducible refine LeO.ite ?_ ?_)
      | (with_reducible refine LeO.bind ?_ (fun _ => ?_))
      | exact ih0 _ _ _ _ _ _ _
      | exact ih1 _ _ _ _ _ _ _
      | exact ih2 _ _ _ _ _ _ _
      | exact LeO.none _
      | refine LeO.ite ?_ ?_
      | refine LeO.bind ?_ (fun _ => ?_)
    · intro y0 y1 y2 y3 y4 y5 y6
      unfold logbook_checkEntry.j2
      repeat' first
      | (with_reducible exact ih0 _ _ _ _ _ _ _)
      | (with_reducible exact ih1 _ _ _ _ _ _ _)
      | (with_reducible exact ih2 _ _ _ _ _ _ _)
      | (with_reducible exact LeO.refl _)
      | (with_reducible exact LeO.none _)
      | (with_reducible refine LeO.ite ?_ ?_)
      | (with_reducible refine LeO.bind ?_ (fun _ => ?_))
      | exact ih0 _ _ _ _ _ _ _
      | exact ih1 _ _ _ _ _ _ _
      | exact ih2 _ _ _ _ _ _ _
      | exact LeO.none _
      | refine LeO.ite ?_ ?_
      | refine LeO.bind ?_ (fun _ => ?_)
theorem logbook_checkEntry.mono : ∀ a0 a1 a2 a3 a4 a5 k, LeO (logbook_checkEntry.f k a0 a1 a2 a3 a4 a5) (logbook_checkEntry.f (k + 1) a0 a1 a2 a3 a4 a5) := by
  intro a0 a1 a2 a3 a4 a5 k
  obtain ⟨ih0, ih1, ih2⟩ := logbook_checkEntry.mono_l k
  unfold logbook_checkEntry.f
  repeat' first
      | (with_reducible exact ih0 _ _ _ _ _ _ _)
      | (with_reducible exact ih1 _ _ _ _ _ _ _)
      | (with_reducible exact ih2 _ _ _ _ _ _ _)
      | (with_reducible exact LeO.refl _)
      | (with_reducible exact LeO.none _)
      | (with_reducible refine LeO.ite ?_ ?_)
      | (with_reducible refine LeO.bind ?_ (fun _ => ?_))
      | exact ih0 _ _ _ _ _ _ _
      | exact ih1 _ _ _ _ _ _ _
      | exact ih2 _ _ _ _ _ _ _
      | exact LeO.none _
      | refine LeO.ite ?_ ?_
      | refine LeO.bind ?_ (fun _ => ?_)

/-! ### logbook_words: function 31 -/
def logbook_words.f  : Option (List ByteArray) := some (([(⟨#[115, 101, 110, 100]⟩ : ByteArray), (⟨#[114, 101, 99, 118]⟩ : ByteArray), (⟨#[115, 116, 101, 112]⟩ : ByteArray), (⟨#[109, 97, 114, 107]⟩ : ByteArray)] : List ByteArray))

/-! ### logbook_numbers: function 32 -/
def logbook_numbers.f (a0_0 : Int) (a0_1 : Int) (a0_2 : Int) (a0_3 : Int) (a0_4 : Int) (a0_5 : Int) : Option (List Int) := if a0_0 = 3 then (some (([a0_1, a0_4, a0_5] : List Int))) else (if a0_0 = 4 then (some (([a0_1, a0_4] : List Int))) else (some (([a0_1, a0_2, a0_3, a0_4] : List Int))))

/-! ### timesyncref50_words: function 42 -/
def timesyncref50_words.l0 : Nat → ByteArray → List ByteArray → Int → Int → Option (List ByteArray)
  | 0, _, _, _, _ => none
  | k + 1, x0, x3, x4, x5 => if x5 ≤ (x0.size : Int) then (if x5 = (x0.size : Int) then (if 0 ≤ x4 then (if x4 ≤ x5 then (if x3.length < 8796093022208 then (timesyncref50_words.l0 k x0 (x3 ++ [x0.extract (x4 : Int).toNat (x5 : Int).toNat]) (wrap64 (x5 + 1)) (wrap64 (x5 + 1))) else (none)) else (none)) else (none)) else (if 0 ≤ x5 then (if x5 < (x0.size : Int) then (if (bt x0 x5) = 32 then (if 0 ≤ x4 then (if x4 ≤ x5 then (if x3.length < 8796093022208 then (timesyncref50_words.l0 k x0 (x3 ++ [x0.extract (x4 : Int).toNat (x5 : Int).toNat]) (wrap64 (x5 + 1)) (wrap64 (x5 + 1))) else (none)) else (none)) else (none)) else (timesyncref50_words.l0 k x0 x3 x4 (wrap64 (x5 + 1)))) else (none)) else (none))) else (some x3)
def timesyncref50_words.f (k : Nat) (a0 : ByteArray) : Option (List ByteArray) := timesyncref50_words.l0 k a0 ([] : List ByteArray) 0 0
theorem timesyncref50_words.mono_l : ∀ k, (∀ y0 y1 y2 y3, LeO (timesyncref50_words.l0 k y0 y1 y2 y3) (timesyncref50_words.l0 (k + 1) y0 y1 y2 y3))
  | 0 => fun _ _ _ _ r h => by simp [timesyncref50_words.l0] at h
  | k + 1 => by
    have ih0 := timesyncref50_words.mono_l k
    · intro y0 y1 y2 y3
      unfold timesyncref50_words.l0
      repeat' first
      | (with_reducible exact ih0 _ _ _ _)
      | (with_reducible exact LeO.refl _)
      | (with_reducible exact LeO.none _)
      | (with_reducible refine LeO.ite ?_ ?_)
      | (with_reducible refine LeO.bind ?_ (fun _ => ?_))
      | exact ih0 _ _ _ _
      | exact LeO.none _
      | refine LeO.ite ?_ ?_
      | refine LeO.bind ?_ (fun _ => ?_)
theorem timesyncref50_words.mono : ∀ a0 k, LeO (timesyncref50_words.f k a0) (timesyncref50_words.f (k + 1) a0) := by
  intro a0 k
  have ih0 := timesyncref50_words.mono_l k
  unfold timesyncref50_words.f
  repeat' first
      | (with_reducible exact ih0 _ _ _ _)
      | (with_reducible exact LeO.refl _)
      | (with_reducible exact LeO.none _)
      | (with_reducible refine LeO.ite ?_ ?_)
      | (with_reducible refine LeO.bind ?_ (fun _ => ?_))
      | exact ih0 _ _ _ _
      | exact LeO.none _
      | refine LeO.ite ?_ ?_
      | refine LeO.bind ?_ (fun _ => ?_)

/-! ### timesyncref50_decimal: function 47 -/
mutual
def timesyncref50_decimal.j0 : Nat → ByteArray → Int → Option (ByteArray)
  | 0, _, _ => none
  | k + 1, x3, x4 => timesyncref50_decimal.l0 k x3 x4 (strOfNums (([(IntKind.u64.wrap (48 + (Int.tmod x4 10))) % 256] : List Int)))
def timesyncref50_decimal.l0 : Nat → ByteArray → Int → ByteArray → Option (ByteArray)
  | 0, _, _, _ => none
  | k + 1, x3, x4, x5 => if x4 > 9 then ((some (([(IntKind.u64.wrap (48 + (Int.tmod (IntKind.u64.wrap (Int.tdiv x4 10)) 10))) % 256] : List Int) : List Int)).bind fun y133 => (if (strOfNums y133).size + x5.size ≤ 9223372036854775807 then (timesyncref50_decimal.l0 k x3 (IntKind.u64.wrap (Int.tdiv x4 10)) ((strOfNums y133) ++ x5)) else (none))) else (if x3.size + x5.size ≤ 9223372036854775807 then (some (x3 ++ x5)) else (none))
end
def timesyncref50_decimal.f (k : Nat) (a0 : Int) : Option (ByteArray) := if a0 < 0 then (timesyncref50_decimal.j0 k (⟨#[45]⟩ : ByteArray) (IntKind.u64.wrap ((IntKind.u64.wrap (wrap64 (-(wrap64 (a0 + 1))))) + 1))) else (timesyncref50_decimal.j0 k (⟨#[]⟩ : ByteArray) (IntKind.u64.wrap (a0)))
theorem timesyncref50_decimal.mono_l : ∀ k, (∀ y0 y1, LeO (timesyncref50_decimal.j0 k y0 y1) (timesyncref50_decimal.j0 (k + 1) y0 y1)) ∧ (∀ y0 y1 y2, LeO (timesyncref50_decimal.l0 k y0 y1 y2) (timesyncref50_decimal.l0 (k + 1) y0 y1 y2))
  | 0 => ⟨fun _ _ r h => by simp [timesyncref50_decimal.j0] at h, fun _ _ _ r h => by simp [timesyncref50_decimal.l0] at h⟩
  | k + 1 => by
    obtain ⟨ih0, ih1⟩ := timesyncref50_decimal.mono_l k
    refine ⟨?_, ?_⟩
    · intro y0 y1
      unfold timesyncref50_decimal.j0
      repeat' first
      | (with_reducible exact ih0 _ _)
      | (with_reducible exact ih1 _ _ _)
      | (with_reducible exact LeO.refl _)
      | (with_reducible exact LeO.none _)
      | (with_reducible refine LeO.ite ?_ ?_)
      | (with_reducible refine LeO.bind ?_ (fun _ => ?_))
      | exact ih0 _ _
      | exact ih1 _ _ _
      | exact LeO.none _
      | refine LeO.ite ?_ ?_
      | refine LeO.bind ?_ (fun _ => ?_)
    · intro y0 y1 y2
      unfold timesyncref50_decimal.l0
      repeat' first
      | (with_reducible exact ih0 _ _)
      | (with_reducible exact ih1 _ _ _)
      | (with_reducible exact LeO.refl _)
      | (with_reducible exact LeO.none _)
      | (with_reducible refine LeO.ite ?_ ?_)
      | (with_reducible refine LeO.bind ?_ (fun _ => ?_))
      | exact ih0 _ _
      | exact ih1 _ _ _
      | exact LeO.none _
      | refine LeO.ite ?_ ?_
      | refine LeO.bind ?_ (fun _ => ?_)
theorem timesyncref50_decimal.mono : ∀ a0 k, LeO (timesyncref50_decimal.f k a0) (timesyncref50_decimal.f (k + 1) a0) := by
  intro a0 k
  obtain ⟨ih0, ih1⟩ := timesyncref50_decimal.mono_l k
  unfold timesyncref50_decimal.f
  repeat' first
      | (with_reducible exact ih0 _ _)
      | (with_reducible exact ih1 _ _ _)
      | (with_reducible exact LeO.refl _)
      | (with_reducible exact LeO.none _)
      | (with_reducible refine LeO.ite ?_ ?_)
      | (with_reducible refine LeO.bind ?_ (fun _ => ?_))
      | exact ih0 _ _
      | exact ih1 _ _ _
      | exact LeO.none _
      | refine LeO.ite ?_ ?_
      | refine LeO.bind ?_ (fun _ => ?_)

/-! ### timesyncref50_number: function 44 -/
mutual
def timesyncref50_number.j0 : Nat → ByteArray → Bool → Option (Int × Bool)
  | 0, _, _ => none
  | k + 1, x0, x4 => if x4 = true then (if 1 ≤ (x0.size : Int) then (timesyncref50_number.j1 k x0 x4 (x0.extract 1 x0.size)) else (none)) else (timesyncref50_number.j1 k x0 x4 x0)
def timesyncref50_number.j1 : Nat → ByteArray → Bool → ByteArray → Option (Int × Bool)
  | 0, _, _, _ => none
  | k + 1, x0, x4, x5 => if (x5.size : Int) > 19 then (some (0, false)) else (timesyncref50_number.l0 k x0 x4 x5 0 0)
def timesyncref50_number.l0 : Nat → ByteArray → Bool → ByteArray → Int → Int → Option (Int × Bool)
  | 0, _, _, _, _, _ => none
  | k + 1, x0, x4, x5, x6, x7 => if x7 < (x5.size : Int) then (if 0 ≤ x7 then (if (bt x5 x7) < 48 then (some (0, false)) else (if (bt x5 x7) > 57 then (some (0, false)) else (timesyncref50_number.l0 k x0 x4 x5 (IntKind.u64.wrap ((IntKind.u64.wrap (10 * x6)) + (((bt x5 x7) - 48) % 256))) (wrap64 (x7 + 1))))) else (none)) else (if x6 > 9223372036854775808 then (timesyncref50_number.j3 k x0 x4 x6 true) else (if x6 = 9223372036854775808 then (timesyncref50_number.j3 k x0 x4 x6 (!x4)) else (timesyncref50_number.j3 k x0 x4 x6 false)))
def timesyncref50_number.j3 : Nat → ByteArray → Bool → Int → Bool → Option (Int × Bool)
  | 0, _, _, _, _ => none
  | k + 1, x0, x4, x6, x56 => if x56 = true then (some (0, false)) else (if x4 = true then (if x6 > 0 then ((timesyncref50_decimal.f k (wrap64 ((wrap64 (-(wrap64 (IntKind.u64.wrap (x6 - 1))))) - 1))).bind fun t136 => (some (wrap64 ((wrap64 (-(wrap64 (IntKind.u64.wrap (x6 - 1))))) - 1), (x0.toList == t136.toList)))) else ((timesyncref50_decimal.f k (wrap64 (x6))).bind fun t137 => (some (wrap64 (x6), (x0.toList == t137.toList))))) else ((timesyncref50_decimal.f k (wrap64 (x6))).bind fun t138 => (some (wrap64 (x6), (x0.toList == t138.toList)))))
end
def timesyncref50_number.f (k : Nat) (a0 : ByteArray) : Option (Int × Bool) := if a0.toList = ([] : List UInt8) then (timesyncref50_number.j0 k a0 false) else (if 0 < (a0.size : Int) then (timesyncref50_number.j0 k a0 ((bt a0 0) == 45)) else (none))
theorem timesyncref50_number.mono_l : ∀ k, (∀ y0 y1, LeO (timesyncref50_number.j0 k y0 y1) (timesyncref50_number.j0 (k + 1) y0 y1)) ∧ (∀ y0 y1 y2, LeO (timesyncref50_number.j1 k y0 y1 y2) (timesyncref50_number.j1 (k + 1) y0 y1 y2)) ∧ (∀ y0 y1 y2 y3 y4, LeO (timesyncref50_number.l0 k y0 y1 y2 y3 y4) (timesyncref50_number.l0 (k + 1) y0 y1 y2 y3 y4)) ∧ (∀ y0 y1 y2 y3, LeO (timesyncref50_number.j3 k y0 y1 y2 y3) (timesyncref50_number.j3 (k + 1) y0 y1 y2 y3))
  | 0 => ⟨fun _ _ r h => by simp [timesyncref50_number.j0] at h, fun _ _ _ r h => by simp [timesyncref50_number.j1] at h, fun _ _ _ _ _ r h => by simp [timesyncref50_number.l0] at h, fun _ _ _ _ r h => by simp [timesyncref50_number.j3] at h⟩
  | k + 1 => by
    obtain ⟨ih0, ih1, ih2, ih3⟩ := timesyncref50_number.mono_l k
    refine ⟨?_, ?_, ?_, ?_⟩
    · intro y0 y1
      unfold timesyncref50_number.j0
      repeat' first
      | (with_reducible exact ih0 _ _)
      | (with_reducible exact ih1 _ _ _)
      | (with_reducible exact ih2 _ _ _ _ _)
      | (with_reducible exact ih3 _ _ _ _)
      | (with_reducible exact timesyncref50_decimal.mono _ _)
      | (with_reducible exact LeO.refl _)
      | (with_reducible exact LeO.none _)
      | (with_reducible refine LeO.ite ?_ ?_)
      | (with_reducible refine LeO.bind ?_ (fun _ => ?_))
      | exact ih0 _ _
      | exact ih1 _ _ _
      | exact ih2 _ _ _ _ _
      | exact ih3 _ _ _ _
      | exact timesyncref50_decimal.mono _ _
      | exact LeO.none _
      | refine LeO.ite ?_ ?_
      | refine LeO.bind ?_ (fun _ => ?_)
    · intro y0 y1 y2
      unfold timesyncref50_number.j1
      repeat' first
      | (with_reducible exact ih0 _ _)
      | (with_reducible exact ih1 _ _ _)
      | (with_reducible exact ih2 _ _ _ _ _)
      | (with_reducible exact ih3 _ _ _ _)
      | (with_reducible exact timesyncref50_decimal.mono _ _)
      | (with_reducible exact LeO.refl _)
      | (with_reducible exact LeO.none _)
      | (with_reducible refine LeO.ite ?_ ?_)
      | (with_reducible refine LeO.bind ?_ (fun _ => ?_))
      | exact ih0 _ _
      | exact ih1 _ _ _
      | exact ih2 _ _ _ _ _
      | exact ih3 _ _ _ _
      | exact timesyncref50_decimal.mono _ _
      | exact LeO.none _
      | refine LeO.ite ?_ ?_
      | refine LeO.bind ?_ (fun _ => ?_)
    · intro y0 y1 y2 y3 y4
      unfold timesyncref50_number.l0
      repeat' first
      | (with_reducible exact ih0 _ _)
      | (with_reducible exact ih1 _ _ _)
      | (with_reducible exact ih2 _ _ _ _ _)
      | (with_reducible exact ih3 _ _ _ _)
      | (with_reducible exact timesyncref50_decimal.mono _ _)
      | (with_reducible exact LeO.refl _)
      | (with_reducible exact LeO.none _)
      | (with_reducible refine LeO.ite ?_ ?_)
      | (with_reducible refine LeO.bind ?_ (fun _ => ?_))
      | exact ih0 _ _
      | exact ih1 _ _ _
      | exact ih2 _ _ _ _ _
      | exact ih3 _ _ _ _
      | exact timesyncref50_decimal.mono _ _
      | exact LeO.none _
      | refine LeO.ite ?_ ?_
      | refine LeO.bind ?_ (fun _ => ?_)
    · intro y0 y1 y2 y3
      unfold timesyncref50_number.j3
      repeat' first
      | (with_reducible exact ih0 _ _)
      | (with_reducible exact ih1 _ _ _)
      | (with_reducible exact ih2 _ _ _ _ _)
      | (with_reducible exact ih3 _ _ _ _)
      | (with_reducible exact timesyncref50_decimal.mono _ _)
      | (with_reducible exact LeO.refl _)
      | (with_reducible exact LeO.none _)
      | (with_reducible refine LeO.ite ?_ ?_)
      | (with_reducible refine LeO.bind ?_ (fun _ => ?_))
      | exact ih0 _ _
      | exact ih1 _ _ _
      | exact ih2 _ _ _ _ _
      | exact ih3 _ _ _ _
      | exact timesyncref50_decimal.mono _ _
      | exact LeO.none _
      | refine LeO.ite ?_ ?_
      | refine LeO.bind ?_ (fun _ => ?_)
theorem timesyncref50_number.mono : ∀ a0 k, LeO (timesyncref50_number.f k a0) (timesyncref50_number.f (k + 1) a0) := by
  intro a0 k
  obtain ⟨ih0, ih1, ih2, ih3⟩ := timesyncref50_number.mono_l k
  unfold timesyncref50_number.f
  repeat' first
      | (with_reducible exact ih0 _ _)
      | (with_reducible exact ih1 _ _ _)
      | (with_reducible exact ih2 _ _ _ _ _)
      | (with_reducible exact ih3 _ _ _ _)
      | (with_reducible exact timesyncref50_decimal.mono _ _)
      | (with_reducible exact LeO.refl _)
      | (with_reducible exact LeO.none _)
      | (with_reducible refine LeO.ite ?_ ?_)
      | (with_reducible refine LeO.bind ?_ (fun _ => ?_))
      | exact ih0 _ _
      | exact ih1 _ _ _
      | exact ih2 _ _ _ _ _
      | exact ih3 _ _ _ _
      | exact timesyncref50_decimal.mono _ _
      | exact LeO.none _
      | refine LeO.ite ?_ ?_
      | refine LeO.bind ?_ (fun _ => ?_)

/-! ### timesyncref50_name: function 43 -/
def timesyncref50_name.f (a0 : Int) : Option (ByteArray) := (some (([(⟨#[]⟩ : ByteArray), (⟨#[115, 101, 110, 100]⟩ : ByteArray), (⟨#[114, 101, 99, 118]⟩ : ByteArray), (⟨#[115, 116, 101, 112]⟩ : ByteArray), (⟨#[109, 97, 114, 107]⟩ : ByteArray)] : List ByteArray) : List ByteArray)).bind fun y139 => (if 0 ≤ a0 then (if a0 < (y139.length : Int) then (some (rdOf ByteArray.empty y139 a0)) else (none)) else (none))

/-! ### timesyncref50_in: function 37 -/
def timesyncref50_in.f (a0 : Int) (a1 : Int) (a2 : Int) : Option (Bool) := if a0 ≥ a1 then (some (decide (a0 ≤ a2))) else (some false)

/-! ### timesyncref50_travels: function 38 -/
def timesyncref50_travels.f (a0_0 : Int) (a0_1 : Int) (a0_2 : Int) (a0_3 : Int) (a0_4 : Int) (a0_5 : Int) : Option (Bool) := if a0_0 = 1 then (some true) else (some (a0_0 == 2))

/-! ### timesyncref50_one: function 24 -/
mutual
def timesyncref50_one.j0 : Nat → Bool → Int → Int → Int → Int → Int → Int → Option (Int)
  | 0, _, _, _, _, _, _, _ => none
  | k + 1, x10, x145000, x145001, x145002, x145003, x145004, x145005 => if x10 = true then (some 8) else ((timesyncref50_in.f x145001 0 23).bind fun t145 => (if t145 = true then ((timesyncref50_in.f x145002 0 23).bind fun t146 => (if t146 = true then ((timesyncref50_in.f x145003 0 2147483647).bind fun t147 => (if t147 = true then ((timesyncref50_in.f x145004 (-4503599627370496) 4503599627370496).bind fun t148 => (if t148 = true then ((timesyncref50_in.f x145005 (-4503599627370496) 4503599627370496).bind fun t149 => (timesyncref50_one.j1 k (!t149) x145000 x145001 x145002 x145003 x145004 x145005)) else (timesyncref50_one.j1 k true x145000 x145001 x145002 x145003 x145004 x145005))) else (timesyncref50_one.j1 k true x145000 x145001 x145002 x145003 x145004 x145005))) else (timesyncref50_one.j1 k true x145000 x145001 x145002 x145003 x145004 x145005))) else (timesyncref50_one.j1 k true x145000 x145001 x145002 x145003 x145004 x145005)))
def timesyncref50_one.j1 : Nat → Bool → Int → Int → Int → Int → Int → Int → Option (Int)
  | 0, _, _, _, _, _, _, _ => none
  | k + 1, x38, x145000, x145001, x145002, x145003, x145004, x145005 => if x38 = true then (some 3) else ((timesyncref50_travels.f x145000 x145001 x145002 x145003 x145004 x145005).bind fun t150 => (if t150 = true then (if x145001 = x145002 then (timesyncref50_one.j2 k true x145000 x145001 x145002 x145003 x145004 x145005) else (timesyncref50_one.j2 k (x145005 != 0) x145000 x145001 x145002 x145003 x145004 x145005)) else (timesyncref50_one.j2 k false x145000 x145001 x145002 x145003 x145004 x145005)))
def timesyncref50_one.j2 : Nat → Bool → Int → Int → Int → Int → Int → Int → Option (Int)
  | 0, _, _, _, _, _, _, _ => none
  | k + 1, x52, x145000, x145001, x145002, x145003, x145004, x145005 => if x52 = true then (some 7) else ((timesyncref50_travels.f x145000 x145001 x145002 x145003 x145004 x145005).bind fun t151 => (if t151 = true then (if x145000 = 4 then (if x145005 = 0 then (some 0) else (some 7)) else (some 0)) else (if x145002 = 0 then (if x145003 = 0 then (if x145000 = 4 then (if x145005 = 0 then (some 0) else (some 7)) else (some 0)) else (some 7)) else (some 7))))
end
def timesyncref50_one.f (k : Nat) (a0_0 : Int) (a0_1 : Int) (a0_2 : Int) (a0_3 : Int) (a0_4 : Int) (a0_5 : Int) : Option (Int) := if a0_0 < 1 then (timesyncref50_one.j0 k true a0_0 a0_1 a0_2 a0_3 a0_4 a0_5) else (timesyncref50_one.j0 k (decide (a0_0 > 4)) a0_0 a0_1 a0_2 a0_3 a0_4 a0_5)
theorem timesyncref50_one.mono_l : ∀ k, (∀ y0 y1 y2 y3 y4 y5 y6, LeO (timesyncref50_one.j0 k y0 y1 y2 y3 y4 y5 y6) (timesyncref50_one.j0 (k + 1) y0 y1 y2 y3 y4 y5 y6)) ∧ (∀ y0 y1 y2 y3 y4 y5 y6, LeO (timesyncref50_one.j1 k y0 y1 y2 y3 y4 y5 y6) (timesyncref50_one.j1 (k + 1) y0 y1 y2 y3 y4 y5 y6)) ∧ (∀ y0 y1 y2 y3 y4 y5 y6, LeO (timesyncref50_one.j2 k y0 y1 y2 y3 y4 y5 y6) (timesyncref50_one.j2 (k + 1) y0 y1 y2 y3 y4 y5 y6))
  | 0 => ⟨fun _ _ _ _ _ _ _ r h => by simp [timesyncref50_one.j0] at h, fun _ _ _ _ _ _ _ r h => by simp [timesyncref50_one.j1] at h, fun _ _ _ _ _ _ _ r h => by simp [timesyncref50_one.j2] at h⟩
  | k + 1 => by
    obtain ⟨ih0, ih1, ih2⟩ := timesyncref50_one.mono_l k
    refine ⟨?_, ?_, ?_⟩
    · intro y0 y1 y2 y3 y4 y5 y6
      unfold timesyncref50_one.j0
      repeat' first
      | (with_reducible exact ih0 _ _ _ _ _ _ _)
      | (with_reducible exact ih1 _ _ _ _ _ _ _)
      | (with_reducible exact ih2 _ _ _ _ _ _ _)
      | (with_reducible exact LeO.refl _)
      | (with_reducible exact LeO.none _)
      | (with_reducible refine LeO.ite ?_ ?_)
      | (with_reducible refine LeO.bind ?_ (fun _ => ?_))
      | exact ih0 _ _ _ _ _ _ _
      | exact ih1 _ _ _ _ _ _ _
      | exact ih2 _ _ _ _ _ _ _
      | exact LeO.none _
      | refine LeO.ite ?_ ?_
      | refine LeO.bind ?_ (fun _ => ?_)
    · intro y0 y1 y2 y3 y4 y5 y6
      unfold timesyncref50_one.j1
      repeat' first
      | (with_reducible exact ih0 _ _ _ _ _ _ _)
      | (with_reducible exact ih1 _ _ _ _ _ _ _)
      | (with_reducible exact ih2 _ _ _ _ _ _ _)
      | (with_reducible exact LeO.refl _)
      | (with_reducible exact LeO.none _)
      | (with_reducible refine LeO.ite ?_ ?_)
      | (with_reducible refine LeO.bind ?_ (fun _ => ?_))
      | exact ih0 _ _ _ _ _ _ _
      | exact ih1 _ _ _ _ _ _ _
      | exact ih2 _ _ _ _ _ _ _
      | exact LeO.none _
      | refine LeO.ite ?_ ?_
      | refine LeO.bind ?_ (fun _ => ?_)
    · intro y0 y1 y2 y3 y4 y5 y6
      unfold timesyncref50_one.j2
      repeat' first
      | (with_reducible exact ih0 _ _ _ _ _ _ _)
      | (with_reducible exact ih1 _ _ _ _ _ _ _)
      | (with_reducible exact ih2 _ _ _ _ _ _ _)
      | (with_reducible exact LeO.refl _)
      | (with_reducible exact LeO.none _)
      | (with_reducible refine LeO.ite ?_ ?_)
      | (with_reducible refine LeO.bind ?_ (fun _ => ?_))
      | exact ih0 _ _ _ _ _ _ _
      | exact ih1 _ _ _ _ _ _ _
      | exact ih2 _ _ _ _ _ _ _
      | exact LeO.none _
      | refine LeO.ite ?_ ?_
      | refine LeO.bind ?_ (fun _ => ?_)
theorem timesyncref50_one.mono : ∀ a0 a1 a2 a3 a4 a5 k, LeO (timesyncref50_one.f k a0 a1 a2 a3 a4 a5) (timesyncref50_one.f (k + 1) a0 a1 a2 a3 a4 a5) := by
  intro a0 a1 a2 a3 a4 a5 k
  obtain ⟨ih0, ih1, ih2⟩ := timesyncref50_one.mono_l k
  unfold timesyncref50_one.f
  repeat' first
      | (with_reducible exact ih0 _ _ _ _ _ _ _)
      | (with_reducible exact ih1 _ _ _ _ _ _ _)
      | (with_reducible exact ih2 _ _ _ _ _ _ _)
      | (with_reducible exact LeO.refl _)
      | (with_reducible exact LeO.none _)
      | (with_reducible refine LeO.ite ?_ ?_)
      | (with_reducible refine LeO.bind ?_ (fun _ => ?_))
      | exact ih0 _ _ _ _ _ _ _
      | exact ih1 _ _ _ _ _ _ _
      | exact ih2 _ _ _ _ _ _ _
      | exact LeO.none _
      | refine LeO.ite ?_ ?_
      | refine LeO.bind ?_ (fun _ => ?_)

/-! ### timesyncref50_twice: function 25 -/
def timesyncref50_twice.l0 : Nat → List (S37) → Int → Int → Option (Bool)
  | 0, _, _, _ => none
  | k + 1, x0, x1, x5 => if x5 < x1 then (if 0 ≤ x1 then (if x1 < (x0.length : Int) then ((timesyncref50_travels.f ((rd_T37 x0 x1).f0) ((rd_T37 x0 x1).f1) ((rd_T37 x0 x1).f2) ((rd_T37 x0 x1).f3) ((rd_T37 x0 x1).f4) ((rd_T37 x0 x1).f5)).bind fun t153 => (if t153 = true then (if 0 ≤ x5 then (if x5 < (x0.length : Int) then (if ((rd_T37 x0 x5).f0) = ((rd_T37 x0 x1).f0) then (if ((rd_T37 x0 x5).f1) = ((rd_T37 x0 x1).f1) then (if ((rd_T37 x0 x5).f2) = ((rd_T37 x0 x1).f2) then (if ((rd_T37 x0 x5).f3) = ((rd_T37 x0 x1).f3) then (some true) else (timesyncref50_twice.l0 k x0 x1 (wrap64 (x5 + 1)))) else (timesyncref50_twice.l0 k x0 x1 (wrap64 (x5 + 1)))) else (timesyncref50_twice.l0 k x0 x1 (wrap64 (x5 + 1)))) else (timesyncref50_twice.l0 k x0 x1 (wrap64 (x5 + 1)))) else (none)) else (none)) else (timesyncref50_twice.l0 k x0 x1 (wrap64 (x5 + 1))))) else (none)) else (none)) else (some false)
def timesyncref50_twice.f (k : Nat) (l0 : List (S37)) (a1 : Int) : Option (Bool) := timesyncref50_twice.l0 k l0 a1 0
theorem timesyncref50_twice.mono_l : ∀ k, (∀ y0 y1 y2, LeO (timesyncref50_twice.l0 k y0 y1 y2) (timesyncref50_twice.l0 (k + 1) y0 y1 y2))
  | 0 => fun _ _ _ r h => by simp [timesyncref50_twice.l0] at h
  | k + 1 => by
    have ih0 := timesyncref50_twice.mono_l k
    · intro y0 y1 y2
      unfold timesyncref50_twice.l0
      repeat' first
      | (with_reducible exact ih0 _ _ _)
      | (with_reducible exact LeO.refl _)
      | (with_reducible exact LeO.none _)
      | (with_reducible refine LeO.ite ?_ ?_)
      | (with_reducible refine LeO.bind ?_ (fun _ => ?_))
      | exact ih0 _ _ _
      | exact LeO.none _
      | refine LeO.ite ?_ ?_
      | refine LeO.bind ?_ (fun _ => ?_)
theorem timesyncref50_twice.mono : ∀ a0 a1 k, LeO (timesyncref50_twice.f k a0 a1) (timesyncref50_twice.f (k + 1) a0 a1) := by
  intro a0 a1 k
  have ih0 := timesyncref50_twice.mono_l k
  unfold timesyncref50_twice.f
  repeat' first
      | (with_reducible exact ih0 _ _ _)
      | (with_reducible exact LeO.refl _)
      | (with_reducible exact LeO.none _)
      | (with_reducible refine LeO.ite ?_ ?_)
      | (with_reducible refine LeO.bind ?_ (fun _ => ?_))
      | exact ih0 _ _ _
      | exact LeO.none _
      | refine LeO.ite ?_ ?_
      | refine LeO.bind ?_ (fun _ => ?_)

/-! ### timesyncref50_back: function 26 -/
def timesyncref50_back.l0 : Nat → List (S37) → Int → Int → Option (Bool)
  | 0, _, _, _ => none
  | k + 1, x0, x1, x5 => if x5 ≥ 0 then (if 0 ≤ x5 then (if x5 < (x0.length : Int) then (if 0 ≤ x1 then (if x1 < (x0.length : Int) then (if ((rd_T37 x0 x5).f1) = ((rd_T37 x0 x1).f1) then (if ((rd_T37 x0 x5).f0) = 3 then (some false) else (some (decide (((rd_T37 x0 x1).f4) < ((rd_T37 x0 x5).f4))))) else (timesyncref50_back.l0 k x0 x1 (wrap64 (x5 - 1)))) else (none)) else (none)) else (none)) else (none)) else (some false)
def timesyncref50_back.f (k : Nat) (l0 : List (S37)) (a1 : Int) : Option (Bool) := timesyncref50_back.l0 k l0 a1 (wrap64 (a1 - 1))
theorem timesyncref50_back.mono_l : ∀ k, (∀ y0 y1 y2, LeO (timesyncref50_back.l0 k y0 y1 y2) (timesyncref50_back.l0 (k + 1) y0 y1 y2))
  | 0 => fun _ _ _ r h => by simp [timesyncref50_back.l0] at h
  | k + 1 => by
    have ih0 := timesyncref50_back.mono_l k
    · intro y0 y1 y2
      unfold timesyncref50_back.l0
      repeat' first
      | (with_reducible exact ih0 _ _ _)
      | (with_reducible exact LeO.refl _)
      | (with_reducible exact LeO.none _)
      | (with_reducible refine LeO.ite ?_ ?_)
      | (with_reducible refine LeO.bind ?_ (fun _ => ?_))
      | exact ih0 _ _ _
      | exact LeO.none _
      | refine LeO.ite ?_ ?_
      | refine LeO.bind ?_ (fun _ => ?_)
theorem timesyncref50_back.mono : ∀ a0 a1 k, LeO (timesyncref50_back.f k a0 a1) (timesyncref50_back.f (k + 1) a0 a1) := by
  intro a0 a1 k
  have ih0 := timesyncref50_back.mono_l k
  unfold timesyncref50_back.f
  repeat' first
      | (with_reducible exact ih0 _ _ _)
      | (with_reducible exact LeO.refl _)
      | (with_reducible exact LeO.none _)
      | (with_reducible refine LeO.ite ?_ ?_)
      | (with_reducible refine LeO.bind ?_ (fun _ => ?_))
      | exact ih0 _ _ _
      | exact LeO.none _
      | refine LeO.ite ?_ ?_
      | refine LeO.bind ?_ (fun _ => ?_)

/-! ### timesyncref50_Check: function 11 -/
mutual
def timesyncref50_Check.l0 : Nat → List (S37) → Int → Option (Int)
  | 0, _, _ => none
  | k + 1, x0, x3 => if x3 < (x0.length : Int) then (if 0 ≤ x3 then ((timesyncref50_one.f k ((rd_T37 x0 x3).f0) ((rd_T37 x0 x3).f1) ((rd_T37 x0 x3).f2) ((rd_T37 x0 x3).f3) ((rd_T37 x0 x3).f4) ((rd_T37 x0 x3).f5)).bind fun t168 => (if t168 = 0 then (timesyncref50_Check.l0 k x0 (wrap64 (x3 + 1))) else (some t168))) else (none)) else (timesyncref50_Check.l1 k x0 0)
def timesyncref50_Check.l1 : Nat → List (S37) → Int → Option (Int)
  | 0, _, _ => none
  | k + 1, x0, x5 => if x5 < (x0.length : Int) then ((timesyncref50_twice.f k x0 x5).bind fun t169 => (if t169 = true then (some 10) else ((timesyncref50_back.f k x0 x5).bind fun t170 => (if t170 = true then (some 12) else (timesyncref50_Check.l1 k x0 (wrap64 (x5 + 1))))))) else (some 0)
end
def timesyncref50_Check.f (k : Nat) (l0 : List (S37)) : Option (Int) := if (l0.length : Int) > 512 then (some 6) else (timesyncref50_Check.l0 k l0 0)
theorem timesyncref50_Check.mono_l : ∀ k, (∀ y0 y1, LeO (timesyncref50_Check.l0 k y0 y1) (timesyncref50_Check.l0 (k + 1) y0 y1)) ∧ (∀ y0 y1, LeO (timesyncref50_Check.l1 k y0 y1) (timesyncref50_Check.l1 (k + 1) y0 y1))
  | 0 => ⟨fun _ _ r h => by simp [timesyncref50_Check.l0] at h, fun _ _ r h => by simp [timesyncref50_Check.l1] at h⟩
  | k + 1 => by
    obtain ⟨ih0, ih1⟩ := timesyncref50_Check.mono_l k
    refine ⟨?_, ?_⟩
    · intro y0 y1
      unfold timesyncref50_Check.l0
      repeat' first
      | (with_reducible exact ih0 _ _)
      | (with_reducible exact ih1 _ _)
      | (with_reducible exact timesyncref50_back.mono _ _ _)
      | (with_reducible exact timesyncref50_one.mono _ _ _ _ _ _ _)
      | (with_reducible exact timesyncref50_twice.mono _ _ _)
      | (with_reducible exact LeO.refl _)
      | (with_reducible exact LeO.none _)
      | (with_reducible refine LeO.ite ?_ ?_)
      | (with_reducible refine LeO.bind ?_ (fun _ => ?_))
      | exact ih0 _ _
      | exact ih1 _ _
      | exact timesyncref50_back.mono _ _ _
      | exact timesyncref50_one.mono _ _ _ _ _ _ _
      | exact timesyncref50_twice.mono _ _ _
      | exact LeO.none _
      | refine LeO.ite ?_ ?_
      | refine LeO.bind ?_ (fun _ => ?_)
    · intro y0 y1
      unfold timesyncref50_Check.l1
      repeat' first
      | (with_reducible exact ih0 _ _)
      | (with_reducible exact ih1 _ _)
      | (with_reducible exact timesyncref50_back.mono _ _ _)
      | (with_reducible exact timesyncref50_one.mono _ _ _ _ _ _ _)
      | (with_reducible exact timesyncref50_twice.mono _ _ _)
      | (with_reducible exact LeO.refl _)
      | (with_reducible exact LeO.none _)
      | (with_reducible refine LeO.ite ?_ ?_)
      | (with_reducible refine LeO.bind ?_ (fun _ => ?_))
      | exact ih0 _ _
      | exact ih1 _ _
      | exact timesyncref50_back.mono _ _ _
      | exact timesyncref50_one.mono _ _ _ _ _ _ _
      | exact timesyncref50_twice.mono _ _ _
      | exact LeO.none _
      | refine LeO.ite ?_ ?_
      | refine LeO.bind ?_ (fun _ => ?_)
theorem timesyncref50_Check.mono : ∀ a0 k, LeO (timesyncref50_Check.f k a0) (timesyncref50_Check.f (k + 1) a0) := by
  intro a0 k
  obtain ⟨ih0, ih1⟩ := timesyncref50_Check.mono_l k
  unfold timesyncref50_Check.f
  repeat' first
      | (with_reducible exact ih0 _ _)
      | (with_reducible exact ih1 _ _)
      | (with_reducible exact timesyncref50_back.mono _ _ _)
      | (with_reducible exact timesyncref50_one.mono _ _ _ _ _ _ _)
      | (with_reducible exact timesyncref50_twice.mono _ _ _)
      | (with_reducible exact LeO.refl _)
      | (with_reducible exact LeO.none _)
      | (with_reducible refine LeO.ite ?_ ?_)
      | (with_reducible refine LeO.bind ?_ (fun _ => ?_))
      | exact ih0 _ _
      | exact ih1 _ _
      | exact timesyncref50_back.mono _ _ _
      | exact timesyncref50_one.mono _ _ _ _ _ _ _
      | exact timesyncref50_twice.mono _ _ _
      | exact LeO.none _
      | refine LeO.ite ?_ ?_
      | refine LeO.bind ?_ (fun _ => ?_)

/-! ### logbook_Parse: function 13 -/
def logbook_Parse.l0 : Nat → ByteArray → List (S37) → Int → Option ((List (S37)) × Int × Int)
  | 0, _, _, _ => none
  | k + 1, x0, x5, x6 => if x0.toList = ([] : List UInt8) then ((logbook_Check.f x5).bind fun t171 => (if t171 = 0 then (some (x5, 0, 0)) else (some (([] : List (S37)), 0, t171)))) else ((strings_Cut.f x0 (⟨#[10]⟩ : ByteArray)).bind fun bt172 => ((logbook_readLine.f bt172.1).bind fun bt175 => (if bt175.2.2.2.2.2.2 = true then (if bt172.2.2 = true then (if x5.length < 2932031007402 then (logbook_Parse.l0 k bt172.2.1 (x5 ++ [(⟨bt175.1, bt175.2.1, bt175.2.2.1, bt175.2.2.2.1, bt175.2.2.2.2.1, bt175.2.2.2.2.2.1⟩ : S37)]) (wrap64 (x6 + 1))) else (none)) else (some (([] : List (S37)), x6, 19))) else (some (([] : List (S37)), x6, 19)))))
def logbook_Parse.f (k : Nat) (a0 : ByteArray) : Option ((List (S37)) × Int × Int) := if (a0.size : Int) > 65536 then (some (([] : List (S37)), 0, 6)) else (logbook_Parse.l0 k a0 ([] : List (S37)) 1)
theorem logbook_Parse.mono_l : ∀ k, (∀ y0 y1 y2, LeO (logbook_Parse.l0 k y0 y1 y2) (logbook_Parse.l0 (k + 1) y0 y1 y2))
  | 0 => fun _ _ _ r h => by simp [logbook_Parse.l0] at h
  | k + 1 => by
    have ih0 := logbook_Parse.mono_l k
    · intro y0 y1 y2
      unfold logbook_Parse.l0
      repeat' first
      | (with_reducible exact ih0 _ _ _)
      | (with_reducible exact LeO.refl _)
      | (with_reducible exact LeO.none _)
      | (with_reducible refine LeO.ite ?_ ?_)
      | (with_reducible refine LeO.bind ?_ (fun _ => ?_))
      | exact ih0 _ _ _
      | exact LeO.none _
      | refine LeO.ite ?_ ?_
      | refine LeO.bind ?_ (fun _ => ?_)
theorem logbook_Parse.mono : ∀ a0 k, LeO (logbook_Parse.f k a0) (logbook_Parse.f (k + 1) a0) := by
  intro a0 k
  have ih0 := logbook_Parse.mono_l k
  unfold logbook_Parse.f
  repeat' first
      | (with_reducible exact ih0 _ _ _)
      | (with_reducible exact LeO.refl _)
      | (with_reducible exact LeO.none _)
      | (with_reducible refine LeO.ite ?_ ?_)
      | (with_reducible refine LeO.bind ?_ (fun _ => ?_))
      | exact ih0 _ _ _
      | exact LeO.none _
      | refine LeO.ite ?_ ?_
      | refine LeO.bind ?_ (fun _ => ?_)

/-! ### timesynclaw50_awake: function 12 -/
def timesynclaw50_awake.f (k : Nat)  : Option (Bool) := (logbook_Parse.f k (⟨#[115, 101, 110, 100, 32, 48, 32, 49, 32, 55, 32, 49, 48, 48, 10, 114, 101, 99, 118, 32, 49, 32, 48, 32, 55, 32, 57, 48, 10]⟩ : ByteArray)).bind fun bt186 => ((logbook_Parse.f k (⟨#[109, 97, 114, 107, 32, 48, 32, 53, 10, 109, 97, 114, 107, 32, 48, 32, 52, 10]⟩ : ByteArray)).bind fun bt191 => ((logbook_Parse.f k (⟨#[109, 97, 114, 107, 32, 48, 32, 53, 10, 115, 116, 101, 112, 32, 48, 32, 53, 32, 45, 49, 10, 109, 97, 114, 107, 32, 48, 32, 52, 10]⟩ : ByteArray)).bind fun bt196 => ((logbook_Parse.f k (⟨#[109, 97, 114, 107, 32, 48, 32, 48, 53, 10]⟩ : ByteArray)).bind fun bt201 => (if (bt186.1.length : Int) = 2 then (if bt186.2.1 = 0 then (if bt186.2.2 = 0 then ((logbook_Pairs.f bt186.1).bind fun t206 => ((slices_Equal_2_int_2_int.f t206 (([(⟨0, 1⟩ : S33)] : List (S33)))).bind fun t212 => (if t212 = true then (if bt191.2.1 = 0 then (if bt191.2.2 = 12 then (if (bt196.1.length : Int) = 3 then (if bt196.2.2 = 0 then (if bt201.2.1 = 1 then (some (bt201.2.2 == 19)) else (some false)) else (some false)) else (some false)) else (some false)) else (some false)) else (some false)))) else (some false)) else (some false)) else (some false)))))
theorem timesynclaw50_awake.mono : ∀ k, LeO (timesynclaw50_awake.f k ) (timesynclaw50_awake.f (k + 1) ) := by
  intro  k
  unfold timesynclaw50_awake.f
  repeat' first
      | (with_reducible exact logbook_Parse.mono _ _)
      | (with_reducible exact LeO.refl _)
      | (with_reducible exact LeO.none _)
      | (with_reducible refine LeO.ite ?_ ?_)
      | (with_reducible refine LeO.bind ?_ (fun _ => ?_))
      | exact logbook_Parse.mono _ _
      | exact LeO.none _
      | refine LeO.ite ?_ ?_
      | refine LeO.bind ?_ (fun _ => ?_)

/-! ### timesynclaw50_LogbookChecks: function 3 -/
def timesynclaw50_LogbookChecks.f (k : Nat) (l0 : List (S37)) : Option (Bool) := if (l0.length : Int) > 600 then (some true) else ((logbook_Check.f l0).bind fun t213 => ((timesyncref50_Check.f k l0).bind fun t214 => (if t213 = t214 then ((timesynclaw50_awake.f k).bind fun t215 => (some t215)) else (some false))))
theorem timesynclaw50_LogbookChecks.mono : ∀ a0 k, LeO (timesynclaw50_LogbookChecks.f k a0) (timesynclaw50_LogbookChecks.f (k + 1) a0) := by
  intro a0 k
  unfold timesynclaw50_LogbookChecks.f
  repeat' first
      | (with_reducible exact timesynclaw50_awake.mono _)
      | (with_reducible exact timesyncref50_Check.mono _ _)
      | (with_reducible exact LeO.refl _)
      | (with_reducible exact LeO.none _)
      | (with_reducible refine LeO.ite ?_ ?_)
      | (with_reducible refine LeO.bind ?_ (fun _ => ?_))
      | exact timesynclaw50_awake.mono _
      | exact timesyncref50_Check.mono _ _
      | exact LeO.none _
      | refine LeO.ite ?_ ?_
      | refine LeO.bind ?_ (fun _ => ?_)

/-! ### timesyncref50_Parse: function 14 -/
def timesyncref50_Parse.l0 : Nat → ByteArray → List (S37) → Int → Int → Option ((List (S37)) × Int × Int)
  | 0, _, _, _, _ => none
  | k + 1, x0, x5, x6, x7 => if x7 < (x0.size : Int) then (if 0 ≤ x7 then (if (bt x0 x7) = 10 then (if 0 ≤ x6 then (if x6 ≤ x7 then (if x7 ≤ (x0.size : Int) then ((timesyncref50_entry.f (x0.extract (x6 : Int).toNat (x7 : Int).toNat)).bind fun bt216 => (if bt216.2.2.2.2.2.2 = true then (if x5.length < 2932031007402 then (timesyncref50_Parse.l0 k x0 (x5 ++ [(⟨bt216.1, bt216.2.1, bt216.2.2.1, bt216.2.2.2.1, bt216.2.2.2.2.1, bt216.2.2.2.2.2.1⟩ : S37)]) (wrap64 (x7 + 1)) (wrap64 (x7 + 1))) else (none)) else (some (([] : List (S37)), wrap64 ((x5.length : Int) + 1), 19)))) else (none)) else (none)) else (none)) else (timesyncref50_Parse.l0 k x0 x5 x6 (wrap64 (x7 + 1)))) else (none)) else (if x6 < (x0.size : Int) then (some (([] : List (S37)), wrap64 ((x5.length : Int) + 1), 19)) else ((timesyncref50_Check.f k x5).bind fun t227 => (if t227 = 0 then (some (x5, 0, 0)) else (some (([] : List (S37)), 0, t227)))))
def timesyncref50_Parse.f (k : Nat) (a0 : ByteArray) : Option ((List (S37)) × Int × Int) := if (a0.size : Int) > 65536 then (some (([] : List (S37)), 0, 6)) else (timesyncref50_Parse.l0 k a0 ([] : List (S37)) 0 0)
theorem timesyncref50_Parse.mono_l : ∀ k, (∀ y0 y1 y2 y3, LeO (timesyncref50_Parse.l0 k y0 y1 y2 y3) (timesyncref50_Parse.l0 (k + 1) y0 y1 y2 y3))
  | 0 => fun _ _ _ _ r h => by simp [timesyncref50_Parse.l0] at h
  | k + 1 => by
    have ih0 := timesyncref50_Parse.mono_l k
    · intro y0 y1 y2 y3
      unfold timesyncref50_Parse.l0
      repeat' first
      | (with_reducible exact ih0 _ _ _ _)
      | (with_reducible exact timesyncref50_Check.mono _ _)
      | (with_reducible exact LeO.refl _)
      | (with_reducible exact LeO.none _)
      | (with_reducible refine LeO.ite ?_ ?_)
      | (with_reducible refine LeO.bind ?_ (fun _ => ?_))
      | exact ih0 _ _ _ _
      | exact timesyncref50_Check.mono _ _
      | exact LeO.none _
      | refine LeO.ite ?_ ?_
      | refine LeO.bind ?_ (fun _ => ?_)
theorem timesyncref50_Parse.mono : ∀ a0 k, LeO (timesyncref50_Parse.f k a0) (timesyncref50_Parse.f (k + 1) a0) := by
  intro a0 k
  have ih0 := timesyncref50_Parse.mono_l k
  unfold timesyncref50_Parse.f
  repeat' first
      | (with_reducible exact ih0 _ _ _ _)
      | (with_reducible exact timesyncref50_Check.mono _ _)
      | (with_reducible exact LeO.refl _)
      | (with_reducible exact LeO.none _)
      | (with_reducible refine LeO.ite ?_ ?_)
      | (with_reducible refine LeO.bind ?_ (fun _ => ?_))
      | exact ih0 _ _ _ _
      | exact timesyncref50_Check.mono _ _
      | exact LeO.none _
      | refine LeO.ite ?_ ?_
      | refine LeO.bind ?_ (fun _ => ?_)

/-! ### timesyncref50_Same: function 15 -/
def timesyncref50_Same.l0 : Nat → List (S37) → List (S37) → Int → Option (Bool)
  | 0, _, _, _ => none
  | k + 1, x0, x1, x5 => if x5 < (x0.length : Int) then (if 0 ≤ x5 then (if x5 < (x1.length : Int) then (if (!(((rd_T37 x0 x5).f0) == ((rd_T37 x1 x5).f0)) || (!(((rd_T37 x0 x5).f1) == ((rd_T37 x1 x5).f1)) || (!(((rd_T37 x0 x5).f2) == ((rd_T37 x1 x5).f2)) || (!(((rd_T37 x0 x5).f3) == ((rd_T37 x1 x5).f3)) || (!(((rd_T37 x0 x5).f4) == ((rd_T37 x1 x5).f4)) || (!(((rd_T37 x0 x5).f5) == ((rd_T37 x1 x5).f5)))))))) = true then (some false) else (timesyncref50_Same.l0 k x0 x1 (wrap64 (x5 + 1)))) else (none)) else (none)) else (some true)
def timesyncref50_Same.f (k : Nat) (l0 : List (S37)) (l1 : List (S37)) : Option (Bool) := if (l0.length : Int) = (l1.length : Int) then (timesyncref50_Same.l0 k l0 l1 0) else (some false)
theorem timesyncref50_Same.mono_l : ∀ k, (∀ y0 y1 y2, LeO (timesyncref50_Same.l0 k y0 y1 y2) (timesyncref50_Same.l0 (k + 1) y0 y1 y2))
  | 0 => fun _ _ _ r h => by simp [timesyncref50_Same.l0] at h
  | k + 1 => by
    have ih0 := timesyncref50_Same.mono_l k
    · intro y0 y1 y2
      unfold timesyncref50_Same.l0
      repeat' first
      | (with_reducible exact ih0 _ _ _)
      | (with_reducible exact LeO.refl _)
      | (with_reducible exact LeO.none _)
      | (with_reducible refine LeO.ite ?_ ?_)
      | (with_reducible refine LeO.bind ?_ (fun _ => ?_))
      | exact ih0 _ _ _
      | exact LeO.none _
      | refine LeO.ite ?_ ?_
      | refine LeO.bind ?_ (fun _ => ?_)
theorem timesyncref50_Same.mono : ∀ a0 a1 k, LeO (timesyncref50_Same.f k a0 a1) (timesyncref50_Same.f (k + 1) a0 a1) := by
  intro a0 a1 k
  have ih0 := timesyncref50_Same.mono_l k
  unfold timesyncref50_Same.f
  repeat' first
      | (with_reducible exact ih0 _ _ _)
      | (with_reducible exact LeO.refl _)
      | (with_reducible exact LeO.none _)
      | (with_reducible refine LeO.ite ?_ ?_)
      | (with_reducible refine LeO.bind ?_ (fun _ => ?_))
      | exact ih0 _ _ _
      | exact LeO.none _
      | refine LeO.ite ?_ ?_
      | refine LeO.bind ?_ (fun _ => ?_)

/-! ### timesynclaw50_LogbookParses: function 4 -/
def timesynclaw50_LogbookParses.f (k : Nat) (a0 : ByteArray) : Option (Bool) := if (a0.size : Int) > 20000 then ((timesynclaw50_awake.f k).bind fun t230 => (some t230)) else ((logbook_Parse.f k a0).bind fun bt231 => ((timesyncref50_Parse.f k a0).bind fun bt236 => ((timesyncref50_Same.f k bt231.1 bt236.1).bind fun t241 => (if t241 = true then (if bt231.2.1 = bt236.2.1 then (if bt231.2.2 = bt236.2.2 then ((timesynclaw50_awake.f k).bind fun t242 => (some t242)) else (some false)) else (some false)) else (some false)))))
theorem timesynclaw50_LogbookParses.mono : ∀ a0 k, LeO (timesynclaw50_LogbookParses.f k a0) (timesynclaw50_LogbookParses.f (k + 1) a0) := by
  intro a0 k
  unfold timesynclaw50_LogbookParses.f
  repeat' first
      | (with_reducible exact logbook_Parse.mono _ _)
      | (with_reducible exact timesynclaw50_awake.mono _)
      | (with_reducible exact timesyncref50_Parse.mono _ _)
      | (with_reducible exact timesyncref50_Same.mono _ _ _)
      | (with_reducible exact LeO.refl _)
      | (with_reducible exact LeO.none _)
      | (with_reducible refine LeO.ite ?_ ?_)
      | (with_reducible refine LeO.bind ?_ (fun _ => ?_))
      | exact logbook_Parse.mono _ _
      | exact timesynclaw50_awake.mono _
      | exact timesyncref50_Parse.mono _ _
      | exact timesyncref50_Same.mono _ _ _
      | exact LeO.none _
      | refine LeO.ite ?_ ?_
      | refine LeO.bind ?_ (fun _ => ?_)

/-! ### timesyncref50_Pairs: function 18 -/
mutual
def timesyncref50_Pairs.l0 : Nat → List (S37) → List (S33) → Int → Option ((List (S33)))
  | 0, _, _, _ => none
  | k + 1, x0, x3, x4 => if x4 < (x0.length : Int) then (timesyncref50_Pairs.l1 k x0 x3 x4 0) else (some x3)
def timesyncref50_Pairs.l1 : Nat → List (S37) → List (S33) → Int → Int → Option ((List (S33)))
  | 0, _, _, _, _ => none
  | k + 1, x0, x3, x4, x5 => if x5 < (x0.length : Int) then (if 0 ≤ x4 then (if x4 < (x0.length : Int) then (timesyncref50_Pairs.j2 k x0 x3 x4 x5 (((rd_T37 x0 x4).f0) == 2)) else (none)) else (none)) else (timesyncref50_Pairs.j2 k x0 x3 x4 x5 false)
def timesyncref50_Pairs.j2 : Nat → List (S37) → List (S33) → Int → Int → Bool → Option ((List (S33)))
  | 0, _, _, _, _, _ => none
  | k + 1, x0, x3, x4, x5, x26 => if x26 = true then (if 0 ≤ x5 then (if x5 < (x0.length : Int) then (if ((rd_T37 x0 x5).f0) = 1 then (if 0 ≤ x4 then (if x4 < (x0.length : Int) then (if ((rd_T37 x0 x5).f1) = ((rd_T37 x0 x4).f2) then (if ((rd_T37 x0 x5).f2) = ((rd_T37 x0 x4).f1) then (if ((rd_T37 x0 x5).f3) = ((rd_T37 x0 x4).f3) then (if x3.length < 8796093022208 then (timesyncref50_Pairs.l1 k x0 (x3 ++ [(⟨x5, x4⟩ : S33)]) x4 (wrap64 (x5 + 1))) else (none)) else (timesyncref50_Pairs.l1 k x0 x3 x4 (wrap64 (x5 + 1)))) else (timesyncref50_Pairs.l1 k x0 x3 x4 (wrap64 (x5 + 1)))) else (timesyncref50_Pairs.l1 k x0 x3 x4 (wrap64 (x5 + 1)))) else (none)) else (none)) else (timesyncref50_Pairs.l1 k x0 x3 x4 (wrap64 (x5 + 1)))) else (none)) else (none)) else (timesyncref50_Pairs.l0 k x0 x3 (wrap64 (x4 + 1)))
end
def timesyncref50_Pairs.f (k : Nat) (l0 : List (S37)) : Option ((List (S33))) := (timesyncref50_Check.f k l0).bind fun t243 => (if t243 = 0 then (timesyncref50_Pairs.l0 k l0 ([] : List (S33)) 0) else (some ([] : List (S33))))
theorem timesyncref50_Pairs.mono_l : ∀ k, (∀ y0 y1 y2, LeO (timesyncref50_Pairs.l0 k y0 y1 y2) (timesyncref50_Pairs.l0 (k + 1) y0 y1 y2)) ∧ (∀ y0 y1 y2 y3, LeO (timesyncref50_Pairs.l1 k y0 y1 y2 y3) (timesyncref50_Pairs.l1 (k + 1) y0 y1 y2 y3)) ∧ (∀ y0 y1 y2 y3 y4, LeO (timesyncref50_Pairs.j2 k y0 y1 y2 y3 y4) (timesyncref50_Pairs.j2 (k + 1) y0 y1 y2 y3 y4))
  | 0 => ⟨fun _ _ _ r h => by simp [timesyncref50_Pairs.l0] at h, fun _ _ _ _ r h => by simp [timesyncref50_Pairs.l1] at h, fun _ _ _ _ _ r h => by simp [timesyncref50_Pairs.j2] at h⟩
  | k + 1 => by
    obtain ⟨ih0, ih1, ih2⟩ := timesyncref50_Pairs.mono_l k
    refine ⟨?_, ?_, ?_⟩
    · intro y0 y1 y2
      unfold timesyncref50_Pairs.l0
      repeat' first
      | (with_reducible exact ih0 _ _ _)
      | (with_reducible exact ih1 _ _ _ _)
      | (with_reducible exact ih2 _ _ _ _ _)
      | (with_reducible exact timesyncref50_Check.mono _ _)
      | (with_reducible exact LeO.refl _)
      | (with_reducible exact LeO.none _)
      | (with_reducible refine LeO.ite ?_ ?_)
      | (with_reducible refine LeO.bind ?_ (fun _ => ?_))
      | exact ih0 _ _ _
      | exact ih1 _ _ _ _
      | exact ih2 _ _ _ _ _
      | exact timesyncref50_Check.mono _ _
      | exact LeO.none _
      | refine LeO.ite ?_ ?_
      | refine LeO.bind ?_ (fun _ => ?_)
    · intro y0 y1 y2 y3
      unfold timesyncref50_Pairs.l1
      repeat' first
      | (with_reducible exact ih0 _ _ _)
      | (with_reducible exact ih1 _ _ _ _)
      | (with_reducible exact ih2 _ _ _ _ _)
      | (with_reducible exact timesyncref50_Check.mono _ _)
      | (with_reducible exact LeO.refl _)
      | (with_reducible exact LeO.none _)
      | (with_reducible refine LeO.ite ?_ ?_)
      | (with_reducible refine LeO.bind ?_ (fun _ => ?_))
      | exact ih0 _ _ _
      | exact ih1 _ _ _ _
      | exact ih2 _ _ _ _ _
      | exact timesyncref50_Check.mono _ _
      | exact LeO.none _
      | refine LeO.ite ?_ ?_
      | refine LeO.bind ?_ (fun _ => ?_)
    · intro y0 y1 y2 y3 y4
      unfold timesyncref50_Pairs.j2
      repeat' first
      | (with_reducible exact ih0 _ _ _)
      | (with_reducible exact ih1 _ _ _ _)
      | (with_reducible exact ih2 _ _ _ _ _)
      | (with_reducible exact timesyncref50_Check.mono _ _)
      | (with_reducible exact LeO.refl _)
      | (with_reducible exact LeO.none _)
      | (with_reducible refine LeO.ite ?_ ?_)
      | (with_reducible refine LeO.bind ?_ (fun _ => ?_))
      | exact ih0 _ _ _
      | exact ih1 _ _ _ _
      | exact ih2 _ _ _ _ _
      | exact timesyncref50_Check.mono _ _
      | exact LeO.none _
      | refine LeO.ite ?_ ?_
      | refine LeO.bind ?_ (fun _ => ?_)
theorem timesyncref50_Pairs.mono : ∀ a0 k, LeO (timesyncref50_Pairs.f k a0) (timesyncref50_Pairs.f (k + 1) a0) := by
  intro a0 k
  obtain ⟨ih0, ih1, ih2⟩ := timesyncref50_Pairs.mono_l k
  unfold timesyncref50_Pairs.f
  repeat' first
      | (with_reducible exact ih0 _ _ _)
      | (with_reducible exact ih1 _ _ _ _)
      | (with_reducible exact ih2 _ _ _ _ _)
      | (with_reducible exact timesyncref50_Check.mono _ _)
      | (with_reducible exact LeO.refl _)
      | (with_reducible exact LeO.none _)
      | (with_reducible refine LeO.ite ?_ ?_)
      | (with_reducible refine LeO.bind ?_ (fun _ => ?_))
      | exact ih0 _ _ _
      | exact ih1 _ _ _ _
      | exact ih2 _ _ _ _ _
      | exact timesyncref50_Check.mono _ _
      | exact LeO.none _
      | refine LeO.ite ?_ ?_
      | refine LeO.bind ?_ (fun _ => ?_)

/-! ### timesynclaw50_LogbookPairs: function 5 -/
def timesynclaw50_LogbookPairs.f (k : Nat) (l0 : List (S37)) : Option (Bool) := if (l0.length : Int) > 600 then (some true) else ((logbook_Pairs.f l0).bind fun t255 => ((timesyncref50_Pairs.f k l0).bind fun t258 => ((slices_Equal_2_int_2_int.f t255 t258).bind fun t261 => (if t261 = true then ((timesynclaw50_awake.f k).bind fun t262 => (some t262)) else (some false)))))
theorem timesynclaw50_LogbookPairs.mono : ∀ a0 k, LeO (timesynclaw50_LogbookPairs.f k a0) (timesynclaw50_LogbookPairs.f (k + 1) a0) := by
  intro a0 k
  unfold timesynclaw50_LogbookPairs.f
  repeat' first
      | (with_reducible exact timesynclaw50_awake.mono _)
      | (with_reducible exact timesyncref50_Pairs.mono _ _)
      | (with_reducible exact LeO.refl _)
      | (with_reducible exact LeO.none _)
      | (with_reducible refine LeO.ite ?_ ?_)
      | (with_reducible refine LeO.bind ?_ (fun _ => ?_))
      | exact timesynclaw50_awake.mono _
      | exact timesyncref50_Pairs.mono _ _
      | exact LeO.none _
      | refine LeO.ite ?_ ?_
      | refine LeO.bind ?_ (fun _ => ?_)

/-! ### timesyncref50_line: function 35 -/
def timesyncref50_line.j0 : Nat → ByteArray → Int → Int → Int → Int → Int → Int → Option (ByteArray)
  | 0, _, _, _, _, _, _, _ => none
  | k + 1, x3, x274000, x274001, x274002, x274003, x274004, x274005 => if x3.size + 1 ≤ 9223372036854775807 then ((timesyncref50_decimal.f k x274004).bind fun t279 => (if x3.size + 1 + t279.size ≤ 9223372036854775807 then (if x274000 = 3 then (if x3.size + 1 + t279.size + 1 ≤ 9223372036854775807 then ((timesyncref50_decimal.f k x274005).bind fun t280 => (if x3.size + 1 + t279.size + 1 + t280.size ≤ 9223372036854775807 then (if x3.size + 1 + t279.size + 1 + t280.size + 1 ≤ 9223372036854775807 then (some (((((x3 ++ (⟨#[32]⟩ : ByteArray)) ++ t279) ++ (⟨#[32]⟩ : ByteArray)) ++ t280) ++ (⟨#[10]⟩ : ByteArray))) else (none)) else (none))) else (none)) else (if x3.size + 1 + t279.size + 1 ≤ 9223372036854775807 then (some (((x3 ++ (⟨#[32]⟩ : ByteArray)) ++ t279) ++ (⟨#[10]⟩ : ByteArray))) else (none))) else (none))) else (none)
def timesyncref50_line.f (k : Nat) (a0_0 : Int) (a0_1 : Int) (a0_2 : Int) (a0_3 : Int) (a0_4 : Int) (a0_5 : Int) : Option (ByteArray) := (timesyncref50_name.f a0_0).bind fun t274 => (if t274.size + 1 ≤ 9223372036854775807 then ((timesyncref50_decimal.f k a0_1).bind fun t275 => (if t274.size + 1 + t275.size ≤ 9223372036854775807 then ((timesyncref50_travels.f a0_0 a0_1 a0_2 a0_3 a0_4 a0_5).bind fun t276 => (if t276 = true then (if t274.size + 1 + t275.size + 1 ≤ 9223372036854775807 then ((timesyncref50_decimal.f k a0_2).bind fun t277 => (if t274.size + 1 + t275.size + 1 + t277.size ≤ 9223372036854775807 then (if t274.size + 1 + t275.size + 1 + t277.size + 1 ≤ 9223372036854775807 then ((timesyncref50_decimal.f k a0_3).bind fun t278 => (if t274.size + 1 + t275.size + 1 + t277.size + 1 + t278.size ≤ 9223372036854775807 then (timesyncref50_line.j0 k ((((((t274 ++ (⟨#[32]⟩ : ByteArray)) ++ t275) ++ (⟨#[32]⟩ : ByteArray)) ++ t277) ++ (⟨#[32]⟩ : ByteArray)) ++ t278) a0_0 a0_1 a0_2 a0_3 a0_4 a0_5) else (none))) else (none)) else (none))) else (none)) else (timesyncref50_line.j0 k ((t274 ++ (⟨#[32]⟩ : ByteArray)) ++ t275) a0_0 a0_1 a0_2 a0_3 a0_4 a0_5))) else (none))) else (none))
theorem timesyncref50_line.mono_l : ∀ k, (∀ y0 y1 y2 y3 y4 y5 y6, LeO (timesyncref50_line.j0 k y0 y1 y2 y3 y4 y5 y6) (timesyncref50_line.j0 (k + 1) y0 y1 y2 y3 y4 y5 y6))
  | 0 => fun _ _ _ _ _ _ _ r h => by simp [timesyncref50_line.j0] at h
  | k + 1 => by
    have ih0 := timesyncref50_line.mono_l k
    · intro y0 y1 y2 y3 y4 y5 y6
      unfold timesyncref50_line.j0
      repeat' first
      | (with_reducible exact ih0 _ _ _ _ _ _ _)
      | (with_reducible exact timesyncref50_decimal.mono _ _)
      | (with_reducible exact LeO.refl _)
      | (with_reducible exact LeO.none _)
      | (with_reducible refine LeO.ite ?_ ?_)
      | (with_reducible refine LeO.bind ?_ (fun _ => ?_))
      | exact ih0 _ _ _ _ _ _ _
      | exact timesyncref50_decimal.mono _ _
      | exact LeO.none _
      | refine LeO.ite ?_ ?_
      | refine LeO.bind ?_ (fun _ => ?_)
theorem timesyncref50_line.mono : ∀ a0 a1 a2 a3 a4 a5 k, LeO (timesyncref50_line.f k a0 a1 a2 a3 a4 a5) (timesyncref50_line.f (k + 1) a0 a1 a2 a3 a4 a5) := by
  intro a0 a1 a2 a3 a4 a5 k
  have ih0 := timesyncref50_line.mono_l k
  unfold timesyncref50_line.f
  repeat' first
      | (with_reducible exact ih0 _ _ _ _ _ _ _)
      | (with_reducible exact timesyncref50_decimal.mono _ _)
      | (with_reducible exact LeO.refl _)
      | (with_reducible exact LeO.none _)
      | (with_reducible refine LeO.ite ?_ ?_)
      | (with_reducible refine LeO.bind ?_ (fun _ => ?_))
      | exact ih0 _ _ _ _ _ _ _
      | exact timesyncref50_decimal.mono _ _
      | exact LeO.none _
      | refine LeO.ite ?_ ?_
      | refine LeO.bind ?_ (fun _ => ?_)

/-! ### timesyncref50_Text: function 20 -/
def timesyncref50_Text.l0 : Nat → List (S37) → ByteArray → Int → Option (ByteArray × Int)
  | 0, _, _, _ => none
  | k + 1, x0, x4, x5 => if x5 < (x0.length : Int) then (if 0 ≤ x5 then ((timesyncref50_line.f k ((rd_T37 x0 x5).f0) ((rd_T37 x0 x5).f1) ((rd_T37 x0 x5).f2) ((rd_T37 x0 x5).f3) ((rd_T37 x0 x5).f4) ((rd_T37 x0 x5).f5)).bind fun t283 => (if x4.size + t283.size ≤ 9223372036854775807 then (timesyncref50_Text.l0 k x0 (x4 ++ t283) (wrap64 (x5 + 1))) else (none))) else (none)) else (some (x4, 0))
def timesyncref50_Text.f (k : Nat) (l0 : List (S37)) : Option (ByteArray × Int) := (timesyncref50_Check.f k l0).bind fun t281 => (if t281 = 0 then (timesyncref50_Text.l0 k l0 (⟨#[]⟩ : ByteArray) 0) else (some ((⟨#[]⟩ : ByteArray), 2)))
theorem timesyncref50_Text.mono_l : ∀ k, (∀ y0 y1 y2, LeO (timesyncref50_Text.l0 k y0 y1 y2) (timesyncref50_Text.l0 (k + 1) y0 y1 y2))
  | 0 => fun _ _ _ r h => by simp [timesyncref50_Text.l0] at h
  | k + 1 => by
    have ih0 := timesyncref50_Text.mono_l k
    · intro y0 y1 y2
      unfold timesyncref50_Text.l0
      repeat' first
      | (with_reducible exact ih0 _ _ _)
      | (with_reducible exact timesyncref50_Check.mono _ _)
      | (with_reducible exact timesyncref50_line.mono _ _ _ _ _ _ _)
      | (with_reducible exact LeO.refl _)
      | (with_reducible exact LeO.none _)
      | (with_reducible refine LeO.ite ?_ ?_)
      | (with_reducible refine LeO.bind ?_ (fun _ => ?_))
      | exact ih0 _ _ _
      | exact timesyncref50_Check.mono _ _
      | exact timesyncref50_line.mono _ _ _ _ _ _ _
      | exact LeO.none _
      | refine LeO.ite ?_ ?_
      | refine LeO.bind ?_ (fun _ => ?_)
theorem timesyncref50_Text.mono : ∀ a0 k, LeO (timesyncref50_Text.f k a0) (timesyncref50_Text.f (k + 1) a0) := by
  intro a0 k
  have ih0 := timesyncref50_Text.mono_l k
  unfold timesyncref50_Text.f
  repeat' first
      | (with_reducible exact ih0 _ _ _)
      | (with_reducible exact timesyncref50_Check.mono _ _)
      | (with_reducible exact timesyncref50_line.mono _ _ _ _ _ _ _)
      | (with_reducible exact LeO.refl _)
      | (with_reducible exact LeO.none _)
      | (with_reducible refine LeO.ite ?_ ?_)
      | (with_reducible refine LeO.bind ?_ (fun _ => ?_))
      | exact ih0 _ _ _
      | exact timesyncref50_Check.mono _ _
      | exact timesyncref50_line.mono _ _ _ _ _ _ _
      | exact LeO.none _
      | refine LeO.ite ?_ ?_
      | refine LeO.bind ?_ (fun _ => ?_)

/-! ### timesynclaw50_LogbookTexts: function 7 -/
def timesynclaw50_LogbookTexts.f (k : Nat) (l0 : List (S37)) : Option (Bool) := if (l0.length : Int) > 600 then ((timesynclaw50_awake.f k).bind fun t284 => (some t284)) else ((logbook_Text.f l0).bind fun bt285 => ((timesyncref50_Text.f k l0).bind fun bt287 => (if bt285.1.toList = bt287.1.toList then (if bt285.2 = bt287.2 then ((timesynclaw50_awake.f k).bind fun t289 => (some t289)) else (some false)) else (some false))))
theorem timesynclaw50_LogbookTexts.mono : ∀ a0 k, LeO (timesynclaw50_LogbookTexts.f k a0) (timesynclaw50_LogbookTexts.f (k + 1) a0) := by
  intro a0 k
  unfold timesynclaw50_LogbookTexts.f
  repeat' first
      | (with_reducible exact timesynclaw50_awake.mono _)
      | (with_reducible exact timesyncref50_Text.mono _ _)
      | (with_reducible exact LeO.refl _)
      | (with_reducible exact LeO.none _)
      | (with_reducible refine LeO.ite ?_ ?_)
      | (with_reducible refine LeO.bind ?_ (fun _ => ?_))
      | exact timesynclaw50_awake.mono _
      | exact timesyncref50_Text.mono _ _
      | exact LeO.none _
      | refine LeO.ite ?_ ?_
      | refine LeO.bind ?_ (fun _ => ?_)

/-! ### api_Entry: function 21 -/
def api_Entry.l0 : Nat → List (S37) → List (S37) → Int → Int → Option (Bool)
  | 0, _, _, _, _ => none
  | k + 1, x0, x1, x12, x13 => if x13 < x12 then (if 0 ≤ x13 then (if x13 < (x0.length : Int) then (if x13 < (x1.length : Int) then (if (!(((rd_T37 x0 x13).f0) == ((rd_T37 x1 x13).f0)) || (!(((rd_T37 x0 x13).f1) == ((rd_T37 x1 x13).f1)) || (!(((rd_T37 x0 x13).f2) == ((rd_T37 x1 x13).f2)) || (!(((rd_T37 x0 x13).f3) == ((rd_T37 x1 x13).f3)) || (!(((rd_T37 x0 x13).f4) == ((rd_T37 x1 x13).f4)) || (!(((rd_T37 x0 x13).f5) == ((rd_T37 x1 x13).f5)))))))) = true then (some false) else (api_Entry.l0 k x0 x1 x12 (wrap64 (x13 + 1)))) else (none)) else (none)) else (none)) else (some true)
def api_Entry.f (k : Nat) (l0 : List (S37)) (l1 : List (S37)) : Option (Bool) := if (l0.length : Int) = (l1.length : Int) then (api_Entry.l0 k l0 l1 (l0.length : Int) 0) else (some false)
theorem api_Entry.mono_l : ∀ k, (∀ y0 y1 y2 y3, LeO (api_Entry.l0 k y0 y1 y2 y3) (api_Entry.l0 (k + 1) y0 y1 y2 y3))
  | 0 => fun _ _ _ _ r h => by simp [api_Entry.l0] at h
  | k + 1 => by
    have ih0 := api_Entry.mono_l k
    · intro y0 y1 y2 y3
      unfold api_Entry.l0
      repeat' first
      | (with_reducible exact ih0 _ _ _ _)
      | (with_reducible exact LeO.refl _)
      | (with_reducible exact LeO.none _)
      | (with_reducible refine LeO.ite ?_ ?_)
      | (with_reducible refine LeO.bind ?_ (fun _ => ?_))
      | exact ih0 _ _ _ _
      | exact LeO.none _
      | refine LeO.ite ?_ ?_
      | refine LeO.bind ?_ (fun _ => ?_)
theorem api_Entry.mono : ∀ a0 a1 k, LeO (api_Entry.f k a0 a1) (api_Entry.f (k + 1) a0 a1) := by
  intro a0 a1 k
  have ih0 := api_Entry.mono_l k
  unfold api_Entry.f
  repeat' first
      | (with_reducible exact ih0 _ _ _ _)
      | (with_reducible exact LeO.refl _)
      | (with_reducible exact LeO.none _)
      | (with_reducible refine LeO.ite ?_ ?_)
      | (with_reducible refine LeO.bind ?_ (fun _ => ?_))
      | exact ih0 _ _ _ _
      | exact LeO.none _
      | refine LeO.ite ?_ ?_
      | refine LeO.bind ?_ (fun _ => ?_)

/-! ### timesynclaw50_LogbookBack: function 8 -/
def timesynclaw50_LogbookBack.f (k : Nat) (l0 : List (S37)) (a1 : Int) : Option (Bool) := if (l0.length : Int) > 600 then ((timesynclaw50_awake.f k).bind fun t292 => (some t292)) else ((logbook_Text.f l0).bind fun bt293 => (if bt293.2 = 0 then (if (wrap64 ((l0.length : Int) + 1)) = 0 then (none) else (if 0 ≤ (Int.tmod (wrap64 (a1)) (wrap64 ((l0.length : Int) + 1))) then (if (Int.tmod (wrap64 (a1)) (wrap64 ((l0.length : Int) + 1))) ≤ (l0.length : Int) then ((logbook_Text.f (l0.take ((Int.tmod (wrap64 (a1)) (wrap64 ((l0.length : Int) + 1))) : Int).toNat)).bind fun bt301 => ((logbook_Parse.f k bt293.1).bind fun bt303 => (if (bt293.1.size : Int) > 65536 then (if bt303.2.2 = 6 then ((timesynclaw50_awake.f k).bind fun t308 => (some t308)) else (some false)) else (if bt301.2 = 0 then (if (bt301.1.size : Int) ≤ (bt293.1.size : Int) then (if 0 ≤ (bt301.1.size : Int) then (if (bt293.1.extract 0 ((bt301.1.size : Int) : Int).toNat).toList = bt301.1.toList then (if bt303.2.2 = 0 then (if bt303.2.1 = 0 then ((api_Entry.f k l0 bt303.1).bind fun t309 => (if t309 = true then ((timesynclaw50_awake.f k).bind fun t310 => (some t310)) else (some false))) else (some false)) else (some false)) else (some false)) else (none)) else (some false)) else (some false))))) else (none)) else (none))) else (if bt293.2 = 2 then ((logbook_Check.f l0).bind fun t295 => (if t295 = 0 then (some false) else (if bt293.1.toList = ([] : List UInt8) then ((timesynclaw50_awake.f k).bind fun t296 => (some t296)) else (some false)))) else (some false))))
theorem timesynclaw50_LogbookBack.mono : ∀ a0 a1 k, LeO (timesynclaw50_LogbookBack.f k a0 a1) (timesynclaw50_LogbookBack.f (k + 1) a0 a1) := by
  intro a0 a1 k
  unfold timesynclaw50_LogbookBack.f
  repeat' first
      | (with_reducible exact api_Entry.mono _ _ _)
      | (with_reducible exact logbook_Parse.mono _ _)
      | (with_reducible exact timesynclaw50_awake.mono _)
      | (with_reducible exact LeO.refl _)
      | (with_reducible exact LeO.none _)
      | (with_reducible refine LeO.ite ?_ ?_)
      | (with_reducible refine LeO.bind ?_ (fun _ => ?_))
      | exact api_Entry.mono _ _ _
      | exact logbook_Parse.mono _ _
      | exact timesynclaw50_awake.mono _
      | exact LeO.none _
      | refine LeO.ite ?_ ?_
      | refine LeO.bind ?_ (fun _ => ?_)

/-! ### timesynclaw50_LogbookWrites: function 9 -/
def timesynclaw50_LogbookWrites.f (k : Nat) (a0 : ByteArray) : Option (Bool) := if (a0.size : Int) > 20000 then ((timesynclaw50_awake.f k).bind fun t311 => (some t311)) else ((logbook_Parse.f k a0).bind fun bt312 => (if bt312.2.2 = 0 then ((logbook_Text.f bt312.1).bind fun bt317 => (if bt317.2 = 0 then (if bt317.1.toList = a0.toList then (if bt312.2.1 = 0 then ((timesynclaw50_awake.f k).bind fun t319 => (some t319)) else (some false)) else (some false)) else (some false))) else (if (bt312.1.length : Int) = 0 then (if ((decide (bt312.2.1 > 0)) == (bt312.2.2 == 19)) = true then ((timesynclaw50_awake.f k).bind fun t320 => (some t320)) else (some false)) else (some false))))
theorem timesynclaw50_LogbookWrites.mono : ∀ a0 k, LeO (timesynclaw50_LogbookWrites.f k a0) (timesynclaw50_LogbookWrites.f (k + 1) a0) := by
  intro a0 k
  unfold timesynclaw50_LogbookWrites.f
  repeat' first
      | (with_reducible exact logbook_Parse.mono _ _)
      | (with_reducible exact timesynclaw50_awake.mono _)
      | (with_reducible exact LeO.refl _)
      | (with_reducible exact LeO.none _)
      | (with_reducible refine LeO.ite ?_ ?_)
      | (with_reducible refine LeO.bind ?_ (fun _ => ?_))
      | exact logbook_Parse.mono _ _
      | exact timesynclaw50_awake.mono _
      | exact LeO.none _
      | refine LeO.ite ?_ ?_
      | refine LeO.bind ?_ (fun _ => ?_)

end Go.Proofs.YtjhifhnjkpoofaaDoor.M
