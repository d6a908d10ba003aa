-- Written by a program of this session (the kit's printer, patched) out of the translation. Lean checks it.
import Derived.Test.YtdhoidhbhkgfgaaDoorM0
import Derived.Test.YtdhoidhbhkgfgaaDoorExtD
namespace Go.Proofs.YtdhoidhbhkgfgaaDoor.M
open Go.RowKit Go.Proofs.YtdhoidhbhkgfgaaDoorG Go.Proofs.YtdhoidhbhkgfgaaDoorW.PrintWords Go.Proofs.YtdhoidhbhkgfgaaDoorW.PrintLast Go.Proofs.YtdhoidhbhkgfgaaDoorW.PrintMore
attribute [local go_sem] max2_int min2_int max_two min_two max_three min_three max_four min_four   -- for this text's walks alone
set_option linter.unusedVariables false
set_option linter.unusedSimpArgs false

/-! ### timesyncref01_divide: function 66 -/
def timesyncref01_divide.l0 : Nat → Int → Int → Int → Int → Int → Int → Int → Option (Int × Int × Int)
  | 0, _, _, _, _, _, _, _ => none
  | k + 1, x0, x1, x2, x9, x10, x11, x12 => if x12 < 128 then (if (x11 / 9223372036854775808) = 1 then (timesyncref01_divide.l0 k (Go.bits .or .u64 (IntKind.u64.wrap (x0 * 2)) (x1 / 9223372036854775808)) (IntKind.u64.wrap (x1 * 2)) x2 (Go.bits .or .u64 (IntKind.u64.wrap (x9 * 2)) (x10 / 9223372036854775808)) (Go.bits .or .u64 (IntKind.u64.wrap (x10 * 2)) 1) (IntKind.u64.wrap ((Go.bits .or .u64 (IntKind.u64.wrap (x11 * 2)) (x0 / 9223372036854775808)) - x2)) (wrap64 (x12 + 1))) else (if (Go.bits .or .u64 (IntKind.u64.wrap (x11 * 2)) (x0 / 9223372036854775808)) ≥ x2 then (timesyncref01_divide.l0 k (Go.bits .or .u64 (IntKind.u64.wrap (x0 * 2)) (x1 / 9223372036854775808)) (IntKind.u64.wrap (x1 * 2)) x2 (Go.bits .or .u64 (IntKind.u64.wrap (x9 * 2)) (x10 / 9223372036854775808)) (Go.bits .or .u64 (IntKind.u64.wrap (x10 * 2)) 1) (IntKind.u64.wrap ((Go.bits .or .u64 (IntKind.u64.wrap (x11 * 2)) (x0 / 9223372036854775808)) - x2)) (wrap64 (x12 + 1))) else (timesyncref01_divide.l0 k (Go.bits .or .u64 (IntKind.u64.wrap (x0 * 2)) (x1 / 9223372036854775808)) (IntKind.u64.wrap (x1 * 2)) x2 (Go.bits .or .u64 (IntKind.u64.wrap (x9 * 2)) (x10 / 9223372036854775808)) (IntKind.u64.wrap (x10 * 2)) (Go.bits .or .u64 (IntKind.u64.wrap (x11 * 2)) (x0 / 9223372036854775808)) (wrap64 (x12 + 1))))) else (some (x9, x10, x11))
def timesyncref01_divide.f (k : Nat) (a0 : Int) (a1 : Int) (a2 : Int) : Option (Int × Int × Int) := timesyncref01_divide.l0 k a0 a1 a2 0 0 0 0
theorem timesyncref01_divide.mono_l : ∀ k, (∀ y0 y1 y2 y3 y4 y5 y6, LeO (timesyncref01_divide.l0 k y0 y1 y2 y3 y4 y5 y6) (timesyncref01_divide.l0 (k + 1) y0 y1 y2 y3 y4 y5 y6))
  | 0 => fun _ _ _ _ _ _ _ r h => by simp [timesyncref01_divide.l0] at h
  | k + 1 => by
    have ih0 := timesyncref01_divide.mono_l k
    · intro y0 y1 y2 y3 y4 y5 y6
      unfold timesyncref01_divide.l0
      repeat' first
      | (with_reducible exact ih0 _ _ _ _ _ _ _)
      | (with_reducible exact LeO.refl _)
      | (with_reducible exact LeO.none _)
      | (with_reducible refine LeO.ite ?_ ?_)
      | (with_reducible refine LeO.bind ?_ (fun _ => ?_))
      | exact ih0 _ _ _ _ _ _ _
      | exact LeO.none _
      | refine LeO.ite ?_ ?_
      | refine LeO.bind ?_ (fun _ => ?_)
theorem timesyncref01_divide.mono : ∀ a0 a1 a2 k, LeO (timesyncref01_divide.f k a0 a1 a2) (timesyncref01_divide.f (k + 1) a0 a1 a2) := by
  intro a0 a1 a2 k
  have ih0 := timesyncref01_divide.mono_l k
  unfold timesyncref01_divide.f
  repeat' first
      | (with_reducible exact ih0 _ _ _ _ _ _ _)
      | (with_reducible exact LeO.refl _)
      | (with_reducible exact LeO.none _)
      | (with_reducible refine LeO.ite ?_ ?_)
      | (with_reducible refine LeO.bind ?_ (fun _ => ?_))
      | exact ih0 _ _ _ _ _ _ _
      | exact LeO.none _
      | refine LeO.ite ?_ ?_
      | refine LeO.bind ?_ (fun _ => ?_)

/-! ### timesyncref01_product: function 47 -/
def timesyncref01_product.f (a0 : Int) (a1 : Int) : Option (Int × Int) := some (IntKind.u64.wrap ((IntKind.u64.wrap ((IntKind.u64.wrap ((IntKind.u64.wrap (Int.tdiv a0 4294967296)) * (IntKind.u64.wrap (Int.tdiv a1 4294967296)))) + (IntKind.u64.wrap (Int.tdiv (IntKind.u64.wrap ((IntKind.u64.wrap ((IntKind.u64.wrap (Int.tdiv a0 4294967296)) * (Int.tmod a1 4294967296))) + (IntKind.u64.wrap (Int.tdiv (IntKind.u64.wrap ((Int.tmod a0 4294967296) * (Int.tmod a1 4294967296))) 4294967296)))) 4294967296)))) + (IntKind.u64.wrap (Int.tdiv (IntKind.u64.wrap ((IntKind.u64.wrap ((Int.tmod a0 4294967296) * (IntKind.u64.wrap (Int.tdiv a1 4294967296)))) + (Int.tmod (IntKind.u64.wrap ((IntKind.u64.wrap ((IntKind.u64.wrap (Int.tdiv a0 4294967296)) * (Int.tmod a1 4294967296))) + (IntKind.u64.wrap (Int.tdiv (IntKind.u64.wrap ((Int.tmod a0 4294967296) * (Int.tmod a1 4294967296))) 4294967296)))) 4294967296))) 4294967296))), IntKind.u64.wrap ((IntKind.u64.wrap ((Int.tmod (IntKind.u64.wrap ((IntKind.u64.wrap ((Int.tmod a0 4294967296) * (IntKind.u64.wrap (Int.tdiv a1 4294967296)))) + (Int.tmod (IntKind.u64.wrap ((IntKind.u64.wrap ((IntKind.u64.wrap (Int.tdiv a0 4294967296)) * (Int.tmod a1 4294967296))) + (IntKind.u64.wrap (Int.tdiv (IntKind.u64.wrap ((Int.tmod a0 4294967296) * (Int.tmod a1 4294967296))) 4294967296)))) 4294967296))) 4294967296) * 4294967296)) + (Int.tmod (IntKind.u64.wrap ((Int.tmod a0 4294967296) * (Int.tmod a1 4294967296))) 4294967296)))

/-! ### timesyncref01_size: function 48 -/
def timesyncref01_size.f (a0 : Int) : Option (Int) := if a0 < 0 then (some (IntKind.u64.wrap ((IntKind.u64.wrap (wrap64 (-(wrap64 (a0 + 1))))) + 1))) else (some (IntKind.u64.wrap (a0)))

/-! ### timesyncref01_signed: function 49 -/
def timesyncref01_signed.j0 : Nat → Bool → Int → Bool → Option (Int × Bool)
  | 0, _, _, _ => none
  | k + 1, x0, x2, x21 => if x21 = true then (some (0, false)) else (if x0 = true then (if x2 = 0 then (some (0, true)) else (some (wrap64 ((wrap64 (-(wrap64 (IntKind.u64.wrap (x2 - 1))))) - 1), true))) else (some (wrap64 (x2), true)))
def timesyncref01_signed.f (k : Nat) (a0 : Bool) (a1 : Int) (a2 : Int) : Option (Int × Bool) := if a1 > 0 then (timesyncref01_signed.j0 k a0 a2 true) else (if a2 > 9223372036854775808 then (timesyncref01_signed.j0 k a0 a2 true) else (if a2 = 9223372036854775808 then (timesyncref01_signed.j0 k a0 a2 (!a0)) else (timesyncref01_signed.j0 k a0 a2 false)))
theorem timesyncref01_signed.mono_l : ∀ k, (∀ y0 y1 y2, LeO (timesyncref01_signed.j0 k y0 y1 y2) (timesyncref01_signed.j0 (k + 1) y0 y1 y2))
  | 0 => fun _ _ _ r h => by simp [timesyncref01_signed.j0] at h
  | k + 1 => by
    have ih0 := timesyncref01_signed.mono_l k
    · intro y0 y1 y2
      unfold timesyncref01_signed.j0
      repeat' first
      | (with_reducible exact ih0 _ _ _)
      | (with_reducible exact LeO.refl _)
      | (with_reducible exact LeO.none _)
      | (with_reducible refine LeO.ite ?_ ?_)
      | (with_reducible refine LeO.bind ?_ (fun _ => ?_))
      | exact ih0 _ _ _
      | exact LeO.none _
      | refine LeO.ite ?_ ?_
      | refine LeO.bind ?_ (fun _ => ?_)
theorem timesyncref01_signed.mono : ∀ a0 a1 a2 k, LeO (timesyncref01_signed.f k a0 a1 a2) (timesyncref01_signed.f (k + 1) a0 a1 a2) := by
  intro a0 a1 a2 k
  have ih0 := timesyncref01_signed.mono_l k
  unfold timesyncref01_signed.f
  repeat' first
      | (with_reducible exact ih0 _ _ _)
      | (with_reducible exact LeO.refl _)
      | (with_reducible exact LeO.none _)
      | (with_reducible refine LeO.ite ?_ ?_)
      | (with_reducible refine LeO.bind ?_ (fun _ => ?_))
      | exact ih0 _ _ _
      | exact LeO.none _
      | refine LeO.ite ?_ ?_
      | refine LeO.bind ?_ (fun _ => ?_)

/-! ### timesyncref01_Mul: function 31 -/
def timesyncref01_Mul.f (k : Nat) (a0 : Int) (a1 : Int) : Option (Int × Bool) := (timesyncref01_size.f a0).bind fun t101 => ((timesyncref01_size.f a1).bind fun t102 => ((timesyncref01_product.f t101 t102).bind fun bt103 => ((timesyncref01_signed.f k ((decide (a0 < 0)) != (decide (a1 < 0))) bt103.1 bt103.2).bind fun bt105 => (some (bt105.1, bt105.2)))))
theorem timesyncref01_Mul.mono : ∀ a0 a1 k, LeO (timesyncref01_Mul.f k a0 a1) (timesyncref01_Mul.f (k + 1) a0 a1) := by
  intro a0 a1 k
  unfold timesyncref01_Mul.f
  repeat' first
      | (with_reducible exact timesyncref01_signed.mono _ _ _ _)
      | (with_reducible exact LeO.refl _)
      | (with_reducible exact LeO.none _)
      | (with_reducible refine LeO.ite ?_ ?_)
      | (with_reducible refine LeO.bind ?_ (fun _ => ?_))
      | exact timesyncref01_signed.mono _ _ _ _
      | exact LeO.none _
      | refine LeO.ite ?_ ?_
      | refine LeO.bind ?_ (fun _ => ?_)

/-! ### ptime_Check: function 13 -/
def ptime_Check.f (a0_0 : Int) (a0_1 : Int) : Option (Int) := if a0_0 < 0 then (some 3) else (if a0_0 > 281474976710655 then (some 3) else (if a0_1 < 0 then (some 3) else (if a0_1 ≥ 1000000000 then (some 3) else (some 0))))

/-! ### ptime_Time: function 9 -/
def ptime_Time.j0 : Nat → Bool → Int → Int → Option (Int × Int)
  | 0, _, _, _ => none
  | k + 1, x12, x109000, x109001 => if x12 = true then (some (0, 3)) else (if (wrap64 ((wrap64 ((wrap64 (x109000 + 2208988800)) * 1000000000)) + x109001)) > 8000000000000000000 then (some (0, 3)) else (some (wrap64 ((wrap64 ((wrap64 (x109000 + 2208988800)) * 1000000000)) + x109001), 0)))
def ptime_Time.f (k : Nat) (a0_0 : Int) (a0_1 : Int) : Option (Int × Int) := (ptime_Check.f a0_0 a0_1).bind fun t109 => (if t109 = 0 then (ptime_Time.j0 k (decide (a0_0 > 5791011200)) a0_0 a0_1) else (ptime_Time.j0 k true a0_0 a0_1))
theorem ptime_Time.mono_l : ∀ k, (∀ y0 y1 y2, LeO (ptime_Time.j0 k y0 y1 y2) (ptime_Time.j0 (k + 1) y0 y1 y2))
  | 0 => fun _ _ _ r h => by simp [ptime_Time.j0] at h
  | k + 1 => by
    have ih0 := ptime_Time.mono_l k
    · intro y0 y1 y2
      unfold ptime_Time.j0
      repeat' first
      | (with_reducible exact ih0 _ _ _)
      | (with_reducible exact LeO.refl _)
      | (with_reducible exact LeO.none _)
      | (with_reducible refine LeO.ite ?_ ?_)
      | (with_reducible refine LeO.bind ?_ (fun _ => ?_))
      | exact ih0 _ _ _
      | exact LeO.none _
      | refine LeO.ite ?_ ?_
      | refine LeO.bind ?_ (fun _ => ?_)
theorem ptime_Time.mono : ∀ a0 a1 k, LeO (ptime_Time.f k a0 a1) (ptime_Time.f (k + 1) a0 a1) := by
  intro a0 a1 k
  have ih0 := ptime_Time.mono_l k
  unfold ptime_Time.f
  repeat' first
      | (with_reducible exact ih0 _ _ _)
      | (with_reducible exact LeO.refl _)
      | (with_reducible exact LeO.none _)
      | (with_reducible refine LeO.ite ?_ ?_)
      | (with_reducible refine LeO.bind ?_ (fun _ => ?_))
      | exact ih0 _ _ _
      | exact LeO.none _
      | refine LeO.ite ?_ ?_
      | refine LeO.bind ?_ (fun _ => ?_)

/-! ### timesyncref04_Check: function 14 -/
def timesyncref04_Check.f (a0_0 : Int) (a0_1 : Int) : Option (Int) := if a0_0 < 0 then (some 3) else (if a0_0 ≥ 281474976710656 then (some 3) else (if a0_1 < 0 then (some 3) else (if a0_1 ≥ 1000000000 then (some 3) else (some 0))))

/-! ### timesyncref04_Time: function 10 -/
def timesyncref04_Time.f (k : Nat) (a0_0 : Int) (a0_1 : Int) : Option (Int × Int) := (timesyncref04_Check.f a0_0 a0_1).bind fun t112 => (if t112 = 0 then ((timesyncref01_Mul.f k (wrap64 (a0_0 + 2208988800)) 1000000000).bind fun bt113 => (if bt113.2 = true then (if bt113.1 > (wrap64 (8000000000000000000 - a0_1)) then (some (0, 3)) else (some (wrap64 (bt113.1 + a0_1), 0))) else (some (0, 3)))) else (some (0, 3)))
theorem timesyncref04_Time.mono : ∀ a0 a1 k, LeO (timesyncref04_Time.f k a0 a1) (timesyncref04_Time.f (k + 1) a0 a1) := by
  intro a0 a1 k
  unfold timesyncref04_Time.f
  repeat' first
      | (with_reducible exact timesyncref01_Mul.mono _ _ _)
      | (with_reducible exact LeO.refl _)
      | (with_reducible exact LeO.none _)
      | (with_reducible refine LeO.ite ?_ ?_)
      | (with_reducible refine LeO.bind ?_ (fun _ => ?_))
      | exact timesyncref01_Mul.mono _ _ _
      | exact LeO.none _
      | refine LeO.ite ?_ ?_
      | refine LeO.bind ?_ (fun _ => ?_)

/-! ### ptime_Of: function 11 -/
def ptime_Of.f (a0 : Int) : Option (Int × Int × Int) := if a0 < 2208988800000000000 then (some (0, 0, 3)) else (some (wrap64 ((wrap64 (Int.tdiv a0 1000000000)) - 2208988800), Int.tmod a0 1000000000, 0))

/-! ### timesyncref04_Of: function 12 -/
def timesyncref04_Of.f (a0 : Int) : Option (Int × Int × Int) := if a0 < 2208988800000000000 then (some (0, 0, 3)) else (some (wrap64 ((wrap64 (Int.tdiv a0 1000000000)) - 2208988800), Int.tmod a0 1000000000, 0))

/-! ### bits_Mul64: function 50 -/
def bits_Mul64.f (a0 : Int) (a1 : Int) : Option (Int × Int) := some (IntKind.u64.wrap ((IntKind.u64.wrap ((IntKind.u64.wrap ((a0 / 4294967296) * (a1 / 4294967296))) + ((IntKind.u64.wrap ((IntKind.u64.wrap ((a0 / 4294967296) * (Go.bits .and .u64 a1 4294967295))) + ((IntKind.u64.wrap ((Go.bits .and .u64 a0 4294967295) * (Go.bits .and .u64 a1 4294967295))) / 4294967296))) / 4294967296))) + ((IntKind.u64.wrap ((Go.bits .and .u64 (IntKind.u64.wrap ((IntKind.u64.wrap ((a0 / 4294967296) * (Go.bits .and .u64 a1 4294967295))) + ((IntKind.u64.wrap ((Go.bits .and .u64 a0 4294967295) * (Go.bits .and .u64 a1 4294967295))) / 4294967296))) 4294967295) + (IntKind.u64.wrap ((Go.bits .and .u64 a0 4294967295) * (a1 / 4294967296))))) / 4294967296)), IntKind.u64.wrap (a0 * a1))

/-! ### fixed_size: function 51 -/
def fixed_size.f (a0 : Int) : Option (Int) := if a0 < 0 then (some (IntKind.u64.wrap (-(IntKind.u64.wrap (a0))))) else (some (IntKind.u64.wrap (a0)))

/-! ### fixed_signed: function 52 -/
def fixed_signed.f (a0 : Int) (a1 : Bool) : Option (Int × Bool) := if a1 = true then (if a0 > 9223372036854775808 then (some (0, false)) else (some (wrap64 (IntKind.u64.wrap (-a0)), true))) else (if a0 ≥ 9223372036854775808 then (some (0, false)) else (some (wrap64 (a0), true)))

/-! ### fixed_Mul: function 32 -/
def fixed_Mul.f (a0 : Int) (a1 : Int) : Option (Int × Bool) := (fixed_size.f a0).bind fun t117 => ((fixed_size.f a1).bind fun t118 => ((bits_Mul64.f t117 t118).bind fun bt119 => (if bt119.1 = 0 then ((fixed_signed.f bt119.2 ((decide (a0 < 0)) != (decide (a1 < 0)))).bind fun bt121 => (some (bt121.1, bt121.2))) else (some (0, false)))))

/-! ### ptime_Corr: function 16 -/
def ptime_Corr.f (a0 : Int) : Option (Int × Int) := (fixed_Mul.f a0 65536).bind fun bt123 => (if bt123.2 = true then (some (bt123.1, 0)) else (some (0, 3)))

/-! ### ptime_Nanos: function 20 -/
def ptime_Nanos.f (a0 : Int) : Option (Int) := some (a0 / 65536)

/-! ### ptime_Encode: function 22 -/
def ptime_Encode.f (a0_0 : Int) (a0_1 : Int) : Option (List Int × Int) := (ptime_Check.f a0_0 a0_1).bind fun t126 => (if t126 = 0 then ((wire_Append.f ([] : List Int) (IntKind.u64.wrap (a0_0)) 6).bind fun bt127 => ((wire_Append.f bt127.1 (IntKind.u64.wrap (a0_1)) 4).bind fun bt131 => (some (bt131.1, bt131.2)))) else (some (([] : List Int), t126)))

/-! ### bytes_Equal: function 26 -/
def bytes_Equal.f (l0 : List Int) (l1 : List Int) : Option (Bool) := some ((strOfNums l0).toList == (strOfNums l1).toList)

/-! ### ptime_Text: function 27 -/
def ptime_Text.f (a0_0 : Int) (a0_1 : Int) : Option (ByteArray) := (ptime_Check.f a0_0 a0_1).bind fun t136 => (if t136 = 0 then ((strconv_Itoa.f a0_1).bind fun t137 => ((strconv_Itoa.f a0_0).bind fun t138 => (if t138.size + 1 ≤ 9223372036854775807 then ((strings_Repeat.f (⟨#[48]⟩ : ByteArray) (wrap64 (9 - (t137.size : Int)))).bind fun t139 => (if t138.size + 1 + t139.size ≤ 9223372036854775807 then (if t138.size + 1 + t139.size + t137.size ≤ 9223372036854775807 then (some (((t138 ++ (⟨#[46]⟩ : ByteArray)) ++ t139) ++ t137)) else (none)) else (none))) else (none)))) else (some (⟨#[]⟩ : ByteArray)))

/-! ### timesynclaw04_awake: function 15 -/
def timesynclaw04_awake.f (k : Nat)  : Option (Bool) := (ptime_Of.f 2208988801000000005).bind fun bt140 => ((ptime_Encode.f bt140.1 bt140.2.1).bind fun bt144 => ((ptime_Of.f 2208988799999999999).bind fun bt148 => ((ptime_Time.f k 5791011200 1).bind fun bt152 => ((ptime_Corr.f 3).bind fun bt154 => (if (bt140.1 == 1 && (bt140.2.1 == 5)) = true then (if bt140.2.2 = 0 then ((ptime_Text.f bt140.1 bt140.2.1).bind fun t156 => (if t156.toList = ([49, 46, 48, 48, 48, 48, 48, 48, 48, 48, 53] : List UInt8) then (if bt144.2 = 0 then ((bytes_Equal.f bt144.1 (([0, 0, 0, 0, 0, 1, 0, 0, 0, 5] : List Int))).bind fun t160 => (if t160 = true then (if bt148.2.2 = 3 then (if bt152.2 = 3 then (if bt154.1 = 196608 then (if bt154.2 = 0 then ((ptime_Nanos.f 196607).bind fun t161 => (if t161 = 2 then ((ptime_Nanos.f (-1)).bind fun t162 => (some (t162 == (-1)))) else (some false))) else (some false)) else (some false)) else (some false)) else (some false)) else (some false))) else (some false)) else (some false))) else (some false)) else (some false))))))
theorem timesynclaw04_awake.mono : ∀ k, LeO (timesynclaw04_awake.f k ) (timesynclaw04_awake.f (k + 1) ) := by
  intro  k
  unfold timesynclaw04_awake.f
  repeat' first
      | (with_reducible exact ptime_Time.mono _ _ _)
      | (with_reducible exact LeO.refl _)
      | (with_reducible exact LeO.none _)
      | (with_reducible refine LeO.ite ?_ ?_)
      | (with_reducible refine LeO.bind ?_ (fun _ => ?_))
      | exact ptime_Time.mono _ _ _
      | exact LeO.none _
      | refine LeO.ite ?_ ?_
      | refine LeO.bind ?_ (fun _ => ?_)

/-! ### timesynclaw04_PtimeInstants: function 3 -/
def timesynclaw04_PtimeInstants.f (k : Nat) (a0_0 : Int) (a0_1 : Int) (a1 : Int) : Option (Bool) := (ptime_Time.f k a0_0 a0_1).bind fun bt164 => ((timesyncref04_Time.f k a0_0 a0_1).bind fun bt166 => ((ptime_Of.f a1).bind fun bt168 => ((timesyncref04_Of.f a1).bind fun bt172 => ((ptime_Check.f a0_0 a0_1).bind fun t176 => ((timesyncref04_Check.f a0_0 a0_1).bind fun t177 => (if t176 = t177 then (if bt164.1 = bt166.1 then (if bt164.2 = bt166.2 then (if (bt168.1 == bt172.1 && (bt168.2.1 == bt172.2.1)) = true then (if bt168.2.2 = bt172.2.2 then ((timesynclaw04_awake.f k).bind fun t178 => (some t178)) else (some false)) else (some false)) else (some false)) else (some false)) else (some false)))))))
theorem timesynclaw04_PtimeInstants.mono : ∀ a0 a1 a2 k, LeO (timesynclaw04_PtimeInstants.f k a0 a1 a2) (timesynclaw04_PtimeInstants.f (k + 1) a0 a1 a2) := by
  intro a0 a1 a2 k
  unfold timesynclaw04_PtimeInstants.f
  repeat' first
      | (with_reducible exact ptime_Time.mono _ _ _)
      | (with_reducible exact timesynclaw04_awake.mono _)
      | (with_reducible exact timesyncref04_Time.mono _ _ _)
      | (with_reducible exact LeO.refl _)
      | (with_reducible exact LeO.none _)
      | (with_reducible refine LeO.ite ?_ ?_)
      | (with_reducible refine LeO.bind ?_ (fun _ => ?_))
      | exact ptime_Time.mono _ _ _
      | exact timesynclaw04_awake.mono _
      | exact timesyncref04_Time.mono _ _ _
      | exact LeO.none _
      | refine LeO.ite ?_ ?_
      | refine LeO.bind ?_ (fun _ => ?_)

/-! ### timesyncref04_Corr: function 17 -/
def timesyncref04_Corr.f (k : Nat) (a0 : Int) : Option (Int × Int) := (timesyncref01_Mul.f k a0 65536).bind fun bt179 => (if bt179.2 = true then (some (bt179.1, 0)) else (some (0, 3)))
theorem timesyncref04_Corr.mono : ∀ a0 k, LeO (timesyncref04_Corr.f k a0) (timesyncref04_Corr.f (k + 1) a0) := by
  intro a0 k
  unfold timesyncref04_Corr.f
  repeat' first
      | (with_reducible exact timesyncref01_Mul.mono _ _ _)
      | (with_reducible exact LeO.refl _)
      | (with_reducible exact LeO.none _)
      | (with_reducible refine LeO.ite ?_ ?_)
      | (with_reducible refine LeO.bind ?_ (fun _ => ?_))
      | exact timesyncref01_Mul.mono _ _ _
      | exact LeO.none _
      | refine LeO.ite ?_ ?_
      | refine LeO.bind ?_ (fun _ => ?_)

/-! ### fixed_Add: function 33 -/
def fixed_Add.f (a0 : Int) (a1 : Int) : Option (Int × Bool) := if (Go.bits .and .i64 (Go.bits .xor .i64 a0 (wrap64 (a0 + a1))) (Go.bits .xor .i64 a1 (wrap64 (a0 + a1)))) < 0 then (some (0, false)) else (some (wrap64 (a0 + a1), true))

/-! ### ptime_AddCorr: function 18 -/
def ptime_AddCorr.f (a0 : Int) (a1 : Int) : Option (Int × Bool) := (fixed_Add.f a0 a1).bind fun bt181 => (if bt181.2 = true then (some (bt181.1, true)) else (if a0 < 0 then (some ((-9223372036854775808), false)) else (some (9223372036854775807, false))))

/-! ### timesyncref01_Add: function 34 -/
def timesyncref01_Add.f (a0 : Int) (a1 : Int) : Option (Int × Bool) := if a1 > 0 then (if a0 > (wrap64 (9223372036854775807 - a1)) then (some (0, false)) else (if a1 < 0 then (if a0 < (wrap64 ((-9223372036854775808) - a1)) then (some (0, false)) else (some (wrap64 (a0 + a1), true))) else (some (wrap64 (a0 + a1), true)))) else (if a1 < 0 then (if a0 < (wrap64 ((-9223372036854775808) - a1)) then (some (0, false)) else (some (wrap64 (a0 + a1), true))) else (some (wrap64 (a0 + a1), true)))

/-! ### timesyncref04_AddCorr: function 19 -/
def timesyncref04_AddCorr.f (a0 : Int) (a1 : Int) : Option (Int × Bool) := (timesyncref01_Add.f a0 a1).bind fun bt183 => (if bt183.2 = true then (some (bt183.1, true)) else (if a0 > 0 then (some (9223372036854775807, false)) else (some ((-9223372036854775808), false))))

/-! ### timesyncref01_Floor: function 35 -/
def timesyncref01_Floor.f (a0 : Int) (a1 : Int) : Option (Int × Bool) := (timesyncref01_MulDiv.f a0 1 a1).bind fun bt185 => (some (bt185.1, bt185.2))

/-! ### timesyncref04_Nanos: function 21 -/
def timesyncref04_Nanos.f (a0 : Int) : Option (Int) := (timesyncref01_Floor.f a0 65536).bind fun bt187 => (some bt187.1)

/-! ### timesynclaw04_PtimeCorrections: function 4 -/
def timesynclaw04_PtimeCorrections.f (k : Nat) (a0 : Int) (a1 : Int) : Option (Bool) := (ptime_Corr.f a0).bind fun bt189 => ((timesyncref04_Corr.f k a0).bind fun bt191 => ((ptime_AddCorr.f a0 a1).bind fun bt193 => ((timesyncref04_AddCorr.f a0 a1).bind fun bt195 => (if bt189.1 = bt191.1 then (if bt189.2 = bt191.2 then ((ptime_Nanos.f a0).bind fun t197 => ((timesyncref04_Nanos.f a0).bind fun t198 => (if t197 = t198 then (if bt193.1 = bt195.1 then (if (bt193.2 == bt195.2) = true then ((timesynclaw04_awake.f k).bind fun t199 => (some t199)) else (some false)) else (some false)) else (some false)))) else (some false)) else (some false)))))
theorem timesynclaw04_PtimeCorrections.mono : ∀ a0 a1 k, LeO (timesynclaw04_PtimeCorrections.f k a0 a1) (timesynclaw04_PtimeCorrections.f (k + 1) a0 a1) := by
  intro a0 a1 k
  unfold timesynclaw04_PtimeCorrections.f
  repeat' first
      | (with_reducible exact timesynclaw04_awake.mono _)
      | (with_reducible exact timesyncref04_Corr.mono _ _)
      | (with_reducible exact LeO.refl _)
      | (with_reducible exact LeO.none _)
      | (with_reducible refine LeO.ite ?_ ?_)
      | (with_reducible refine LeO.bind ?_ (fun _ => ?_))
      | exact timesynclaw04_awake.mono _
      | exact timesyncref04_Corr.mono _ _
      | exact LeO.none _
      | refine LeO.ite ?_ ?_
      | refine LeO.bind ?_ (fun _ => ?_)

/-! ### timesynclaw04_PtimeSums: function 5 -/
mutual
def timesynclaw04_PtimeSums.j0 : Nat → Int → Bool → Option (Bool)
  | 0, _, _ => none
  | k + 1, x0, x30 => if x30 = true then (some false) else ((ptime_Corr.f x0).bind fun bt205 => (if bt205.2 = 0 then ((ptime_Nanos.f bt205.1).bind fun t207 => (if t207 = x0 then ((timesynclaw04_awake.f k).bind fun t208 => (some t208)) else (some false))) else ((timesynclaw04_awake.f k).bind fun t209 => (some t209))))
def timesynclaw04_PtimeSums.j1 : Nat → Int → Bool → Option (Bool)
  | 0, _, _ => none
  | k + 1, x0, x36 => if x36 = true then (some false) else ((ptime_Corr.f x0).bind fun bt210 => (if bt210.2 = 0 then ((ptime_Nanos.f bt210.1).bind fun t212 => (if t212 = x0 then ((timesynclaw04_awake.f k).bind fun t213 => (some t213)) else (some false))) else ((timesynclaw04_awake.f k).bind fun t214 => (some t214))))
end
def timesynclaw04_PtimeSums.f (k : Nat) (a0 : Int) (a1 : Int) : Option (Bool) := (ptime_AddCorr.f a0 a1).bind fun bt200 => (if bt200.2 = true then ((ptime_Nanos.f bt200.1).bind fun t202 => ((ptime_Nanos.f a0).bind fun t203 => ((ptime_Nanos.f a1).bind fun t204 => (if (wrap64 ((wrap64 (t202 - t203)) - t204)) = 0 then (timesynclaw04_PtimeSums.j0 k a0 false) else (timesynclaw04_PtimeSums.j0 k a0 ((wrap64 ((wrap64 (t202 - t203)) - t204)) != 1)))))) else (if bt200.1 = 9223372036854775807 then (timesynclaw04_PtimeSums.j1 k a0 false) else (timesynclaw04_PtimeSums.j1 k a0 (bt200.1 != (-9223372036854775808)))))
theorem timesynclaw04_PtimeSums.mono_l : ∀ k, (∀ y0 y1, LeO (timesynclaw04_PtimeSums.j0 k y0 y1) (timesynclaw04_PtimeSums.j0 (k + 1) y0 y1)) ∧ (∀ y0 y1, LeO (timesynclaw04_PtimeSums.j1 k y0 y1) (timesynclaw04_PtimeSums.j1 (k + 1) y0 y1))
  | 0 => ⟨fun _ _ r h => by simp [timesynclaw04_PtimeSums.j0] at h, fun _ _ r h => by simp [timesynclaw04_PtimeSums.j1] at h⟩
  | k + 1 => by
    obtain ⟨ih0, ih1⟩ := timesynclaw04_PtimeSums.mono_l k
    refine ⟨?_, ?_⟩
    · intro y0 y1
      unfold timesynclaw04_PtimeSums.j0
      repeat' first
      | (with_reducible exact ih0 _ _)
      | (with_reducible exact ih1 _ _)
      | (with_reducible exact timesynclaw04_awake.mono _)
      | (with_reducible exact LeO.refl _)
      | (with_reducible exact LeO.none _)
      | (with_reducible refine LeO.ite ?_ ?_)
      | (with_reducible refine LeO.bind ?_ (fun _ => ?_))
      | exact ih0 _ _
      | exact ih1 _ _
      | exact timesynclaw04_awake.mono _
      | exact LeO.none _
      | refine LeO.ite ?_ ?_
      | refine LeO.bind ?_ (fun _ => ?_)
    · intro y0 y1
      unfold timesynclaw04_PtimeSums.j1
      repeat' first
      | (with_reducible exact ih0 _ _)
      | (with_reducible exact ih1 _ _)
      | (with_reducible exact timesynclaw04_awake.mono _)
      | (with_reducible exact LeO.refl _)
      | (with_reducible exact LeO.none _)
      | (with_reducible refine LeO.ite ?_ ?_)
      | (with_reducible refine LeO.bind ?_ (fun _ => ?_))
      | exact ih0 _ _
      | exact ih1 _ _
      | exact timesynclaw04_awake.mono _
      | exact LeO.none _
      | refine LeO.ite ?_ ?_
      | refine LeO.bind ?_ (fun _ => ?_)
theorem timesynclaw04_PtimeSums.mono : ∀ a0 a1 k, LeO (timesynclaw04_PtimeSums.f k a0 a1) (timesynclaw04_PtimeSums.f (k + 1) a0 a1) := by
  intro a0 a1 k
  obtain ⟨ih0, ih1⟩ := timesynclaw04_PtimeSums.mono_l k
  unfold timesynclaw04_PtimeSums.f
  repeat' first
      | (with_reducible exact ih0 _ _)
      | (with_reducible exact ih1 _ _)
      | (with_reducible exact timesynclaw04_awake.mono _)
      | (with_reducible exact LeO.refl _)
      | (with_reducible exact LeO.none _)
      | (with_reducible refine LeO.ite ?_ ?_)
      | (with_reducible refine LeO.bind ?_ (fun _ => ?_))
      | exact ih0 _ _
      | exact ih1 _ _
      | exact timesynclaw04_awake.mono _
      | exact LeO.none _
      | refine LeO.ite ?_ ?_
      | refine LeO.bind ?_ (fun _ => ?_)

/-! ### timesyncref02_fits: function 55 -/
def timesyncref02_fits.f (a0 : Int) (a1 : Int) : Option (Bool) := if a1 = 8 then (some true) else (if 0 ≤ (wrap64 (8 * a1)) then (some ((shr .u64 a0 (wrap64 (8 * a1))) == 0)) else (none))

/-! ### timesyncref02_Append: function 37 -/
mutual
def timesyncref02_Append.j0 : Nat → List Int → Int → Int → Bool → Option (List Int × Int)
  | 0, _, _, _, _ => none
  | k + 1, x0, x1, x2, x15 => if x15 = true then (some (([] : List Int), 2)) else ((timesyncref02_fits.f x1 x2).bind fun t215 => (if t215 = true then ((some (([] : List Int) : List Int)).bind fun y216 => (if y216.length + x0.length < 140737488355328 then (timesyncref02_Append.l0 k x1 (y216 ++ x0) (wrap64 (x2 - 1))) else (none))) else (some (([] : List Int), 3))))
def timesyncref02_Append.l0 : Nat → Int → List Int → Int → Option (List Int × Int)
  | 0, _, _, _ => none
  | k + 1, x1, x8, x9 => if x9 ≥ 0 then (if 0 ≤ (wrap64 (8 * x9)) then (if x8.length < 140737488355328 then (timesyncref02_Append.l0 k x1 (x8 ++ [(shr .u64 x1 (wrap64 (8 * x9))) % 256]) (wrap64 (x9 - 1))) else (none)) else (none)) else (some (x8, 0))
end
def timesyncref02_Append.f (k : Nat) (l0 : List Int) (a1 : Int) (a2 : Int) : Option (List Int × Int) := if a2 < 1 then (timesyncref02_Append.j0 k l0 a1 a2 true) else (timesyncref02_Append.j0 k l0 a1 a2 (decide (a2 > 8)))
theorem timesyncref02_Append.mono_l : ∀ k, (∀ y0 y1 y2 y3, LeO (timesyncref02_Append.j0 k y0 y1 y2 y3) (timesyncref02_Append.j0 (k + 1) y0 y1 y2 y3)) ∧ (∀ y0 y1 y2, LeO (timesyncref02_Append.l0 k y0 y1 y2) (timesyncref02_Append.l0 (k + 1) y0 y1 y2))
  | 0 => ⟨fun _ _ _ _ r h => by simp [timesyncref02_Append.j0] at h, fun _ _ _ r h => by simp [timesyncref02_Append.l0] at h⟩
  | k + 1 => by
    obtain ⟨ih0, ih1⟩ := timesyncref02_Append.mono_l k
    refine ⟨?_, ?_⟩
    · intro y0 y1 y2 y3
      unfold timesyncref02_Append.j0
      repeat' first
      | (with_reducible exact ih0 _ _ _ _)
      | (with_reducible exact ih1 _ _ _)
      | (with_reducible exact LeO.refl _)
      | (with_reducible exact LeO.none _)
      | (with_reducible refine LeO.ite ?_ ?_)
      | (with_reducible refine LeO.bind ?_ (fun _ => ?_))
      | exact ih0 _ _ _ _
      | exact ih1 _ _ _
      | exact LeO.none _
      | refine LeO.ite ?_ ?_
      | refine LeO.bind ?_ (fun _ => ?_)
    · intro y0 y1 y2
      unfold timesyncref02_Append.l0
      repeat' first
      | (with_reducible exact ih0 _ _ _ _)
      | (with_reducible exact ih1 _ _ _)
      | (with_reducible exact LeO.refl _)
      | (with_reducible exact LeO.none _)
      | (with_reducible refine LeO.ite ?_ ?_)
      | (with_reducible refine LeO.bind ?_ (fun _ => ?_))
      | exact ih0 _ _ _ _
      | exact ih1 _ _ _
      | exact LeO.none _
      | refine LeO.ite ?_ ?_
      | refine LeO.bind ?_ (fun _ => ?_)
theorem timesyncref02_Append.mono : ∀ a0 a1 a2 k, LeO (timesyncref02_Append.f k a0 a1 a2) (timesyncref02_Append.f (k + 1) a0 a1 a2) := by
  intro a0 a1 a2 k
  obtain ⟨ih0, ih1⟩ := timesyncref02_Append.mono_l k
  unfold timesyncref02_Append.f
  repeat' first
      | (with_reducible exact ih0 _ _ _ _)
      | (with_reducible exact ih1 _ _ _)
      | (with_reducible exact LeO.refl _)
      | (with_reducible exact LeO.none _)
      | (with_reducible refine LeO.ite ?_ ?_)
      | (with_reducible refine LeO.bind ?_ (fun _ => ?_))
      | exact ih0 _ _ _ _
      | exact ih1 _ _ _
      | exact LeO.none _
      | refine LeO.ite ?_ ?_
      | refine LeO.bind ?_ (fun _ => ?_)

/-! ### timesyncref04_Encode: function 23 -/
def timesyncref04_Encode.f (k : Nat) (a0_0 : Int) (a0_1 : Int) : Option (List Int × Int) := (timesyncref04_Check.f a0_0 a0_1).bind fun t226 => (if t226 = 0 then ((timesyncref02_Append.f k ([] : List Int) (IntKind.u64.wrap (a0_0)) 6).bind fun bt227 => ((timesyncref02_Append.f k bt227.1 (IntKind.u64.wrap (a0_1)) 4).bind fun bt231 => (some (bt231.1, 0)))) else (some (([] : List Int), 3)))
theorem timesyncref04_Encode.mono : ∀ a0 a1 k, LeO (timesyncref04_Encode.f k a0 a1) (timesyncref04_Encode.f (k + 1) a0 a1) := by
  intro a0 a1 k
  unfold timesyncref04_Encode.f
  repeat' first
      | (with_reducible exact timesyncref02_Append.mono _ _ _ _)
      | (with_reducible exact LeO.refl _)
      | (with_reducible exact LeO.none _)
      | (with_reducible refine LeO.ite ?_ ?_)
      | (with_reducible refine LeO.bind ?_ (fun _ => ?_))
      | exact timesyncref02_Append.mono _ _ _ _
      | exact LeO.none _
      | refine LeO.ite ?_ ?_
      | refine LeO.bind ?_ (fun _ => ?_)

/-! ### timesyncref02_Get: function 40 -/
mutual
def timesyncref02_Get.j0 : Nat → List Int → Int → Int → Bool → Option (Int × Int)
  | 0, _, _, _, _ => none
  | k + 1, x0, x1, x2, x15 => if x15 = true then (some (0, 2)) else (if x1 < 0 then (timesyncref02_Get.j1 k x0 x1 x2 true) else (if x1 > (x0.length : Int) then (timesyncref02_Get.j1 k x0 x1 x2 true) else (timesyncref02_Get.j1 k x0 x1 x2 (decide ((wrap64 ((x0.length : Int) - x1)) < x2)))))
def timesyncref02_Get.j1 : Nat → List Int → Int → Int → Bool → Option (Int × Int)
  | 0, _, _, _, _ => none
  | k + 1, x0, x1, x2, x31 => if x31 = true then (some (0, 5)) else (timesyncref02_Get.l0 k x0 x1 x2 0 0)
def timesyncref02_Get.l0 : Nat → List Int → Int → Int → Int → Int → Option (Int × Int)
  | 0, _, _, _, _, _ => none
  | k + 1, x0, x1, x2, x8, x9 => if x9 < x2 then (if 0 ≤ (wrap64 (x1 + x9)) then (if (wrap64 (x1 + x9)) < (x0.length : Int) then (timesyncref02_Get.l0 k x0 x1 x2 (Go.bits .or .u64 (IntKind.u64.wrap (x8 * 256)) (IntKind.u64.wrap (rd x0 (wrap64 (x1 + x9))))) (wrap64 (x9 + 1))) else (none)) else (none)) else (some (x8, 0))
end
def timesyncref02_Get.f (k : Nat) (l0 : List Int) (a1 : Int) (a2 : Int) : Option (Int × Int) := if a2 < 1 then (timesyncref02_Get.j0 k l0 a1 a2 true) else (timesyncref02_Get.j0 k l0 a1 a2 (decide (a2 > 8)))
theorem timesyncref02_Get.mono_l : ∀ k, (∀ y0 y1 y2 y3, LeO (timesyncref02_Get.j0 k y0 y1 y2 y3) (timesyncref02_Get.j0 (k + 1) y0 y1 y2 y3)) ∧ (∀ y0 y1 y2 y3, LeO (timesyncref02_Get.j1 k y0 y1 y2 y3) (timesyncref02_Get.j1 (k + 1) y0 y1 y2 y3)) ∧ (∀ y0 y1 y2 y3 y4, LeO (timesyncref02_Get.l0 k y0 y1 y2 y3 y4) (timesyncref02_Get.l0 (k + 1) y0 y1 y2 y3 y4))
  | 0 => ⟨fun _ _ _ _ r h => by simp [timesyncref02_Get.j0] at h, fun _ _ _ _ r h => by simp [timesyncref02_Get.j1] at h, fun _ _ _ _ _ r h => by simp [timesyncref02_Get.l0] at h⟩
  | k + 1 => by
    obtain ⟨ih0, ih1, ih2⟩ := timesyncref02_Get.mono_l k
    refine ⟨?_, ?_, ?_⟩
    · intro y0 y1 y2 y3
      unfold timesyncref02_Get.j0
      repeat' first
      | (with_reducible exact ih0 _ _ _ _)
      | (with_reducible exact ih1 _ _ _ _)
      | (with_reducible exact ih2 _ _ _ _ _)
      | (with_reducible exact LeO.refl _)
      | (with_reducible exact LeO.none _)
      | (with_reducible refine LeO.ite ?_ ?_)
      | (with_reducible refine LeO.bind ?_ (fun _ => ?_))
      | exact ih0 _ _ _ _
      | exact ih1 _ _ _ _
      | exact ih2 _ _ _ _ _
      | exact LeO.none _
      | refine LeO.ite ?_ ?_
      | refine LeO.bind ?_ (fun _ => ?_)
    · intro y0 y1 y2 y3
      unfold timesyncref02_Get.j1
      repeat' first
      | (with_reducible exact ih0 _ _ _ _)
      | (with_reducible exact ih1 _ _ _ _)
      | (with_reducible exact ih2 _ _ _ _ _)
      | (with_reducible exact LeO.refl _)
      | (with_reducible exact LeO.none _)
      | (with_reducible refine LeO.ite ?_ ?_)
      | (with_reducible refine LeO.bind ?_ (fun _ => ?_))
      | exact ih0 _ _ _ _
      | exact ih1 _ _ _ _
      | exact ih2 _ _ _ _ _
      | exact LeO.none _
      | refine LeO.ite ?_ ?_
      | refine LeO.bind ?_ (fun _ => ?_)
    · intro y0 y1 y2 y3 y4
      unfold timesyncref02_Get.l0
      repeat' first
      | (with_reducible exact ih0 _ _ _ _)
      | (with_reducible exact ih1 _ _ _ _)
      | (with_reducible exact ih2 _ _ _ _ _)
      | (with_reducible exact LeO.refl _)
      | (with_reducible exact LeO.none _)
      | (with_reducible refine LeO.ite ?_ ?_)
      | (with_reducible refine LeO.bind ?_ (fun _ => ?_))
      | exact ih0 _ _ _ _
      | exact ih1 _ _ _ _
      | exact ih2 _ _ _ _ _
      | exact LeO.none _
      | refine LeO.ite ?_ ?_
      | refine LeO.bind ?_ (fun _ => ?_)
theorem timesyncref02_Get.mono : ∀ a0 a1 a2 k, LeO (timesyncref02_Get.f k a0 a1 a2) (timesyncref02_Get.f (k + 1) a0 a1 a2) := by
  intro a0 a1 a2 k
  obtain ⟨ih0, ih1, ih2⟩ := timesyncref02_Get.mono_l k
  unfold timesyncref02_Get.f
  repeat' first
      | (with_reducible exact ih0 _ _ _ _)
      | (with_reducible exact ih1 _ _ _ _)
      | (with_reducible exact ih2 _ _ _ _ _)
      | (with_reducible exact LeO.refl _)
      | (with_reducible exact LeO.none _)
      | (with_reducible refine LeO.ite ?_ ?_)
      | (with_reducible refine LeO.bind ?_ (fun _ => ?_))
      | exact ih0 _ _ _ _
      | exact ih1 _ _ _ _
      | exact ih2 _ _ _ _ _
      | exact LeO.none _
      | refine LeO.ite ?_ ?_
      | refine LeO.bind ?_ (fun _ => ?_)

/-! ### timesyncref04_Decode: function 25 -/
def timesyncref04_Decode.f (k : Nat) (l0 : List Int) : Option (Int × Int × Int) := if (l0.length : Int) < 10 then (some (0, 0, 5)) else (if (l0.length : Int) > 10 then (some (0, 0, 6)) else ((timesyncref02_Get.f k l0 0 6).bind fun bt237 => ((timesyncref02_Get.f k l0 6 4).bind fun bt239 => ((timesyncref04_Check.f (wrap64 (bt237.1)) (wrap64 (bt239.1))).bind fun t242 => (if t242 = 0 then (some (wrap64 (bt237.1), wrap64 (bt239.1), 0)) else (some (0, 0, 3)))))))
theorem timesyncref04_Decode.mono : ∀ a0 k, LeO (timesyncref04_Decode.f k a0) (timesyncref04_Decode.f (k + 1) a0) := by
  intro a0 k
  unfold timesyncref04_Decode.f
  repeat' first
      | (with_reducible exact timesyncref02_Get.mono _ _ _ _)
      | (with_reducible exact LeO.refl _)
      | (with_reducible exact LeO.none _)
      | (with_reducible refine LeO.ite ?_ ?_)
      | (with_reducible refine LeO.bind ?_ (fun _ => ?_))
      | exact timesyncref02_Get.mono _ _ _ _
      | exact LeO.none _
      | refine LeO.ite ?_ ?_
      | refine LeO.bind ?_ (fun _ => ?_)

/-! ### timesynclaw04_PtimeBytes: function 6 -/
def timesynclaw04_PtimeBytes.f (k : Nat) (a0_0 : Int) (a0_1 : Int) (l1 : List Int) : Option (Bool) := (ptime_Encode.f a0_0 a0_1).bind fun bt244 => ((timesyncref04_Encode.f k a0_0 a0_1).bind fun bt248 => ((ptime_Decode.f l1).bind fun bt252 => ((timesyncref04_Decode.f k l1).bind fun bt256 => ((bytes_Equal.f bt244.1 bt248.1).bind fun t260 => (if t260 = true then (if bt244.2 = bt248.2 then (if (bt252.1 == bt256.1 && (bt252.2.1 == bt256.2.1)) = true then (if bt252.2.2 = bt256.2.2 then ((timesynclaw04_awake.f k).bind fun t261 => (some t261)) else (some false)) else (some false)) else (some false)) else (some false))))))
theorem timesynclaw04_PtimeBytes.mono : ∀ a0 a1 a2 k, LeO (timesynclaw04_PtimeBytes.f k a0 a1 a2) (timesynclaw04_PtimeBytes.f (k + 1) a0 a1 a2) := by
  intro a0 a1 a2 k
  unfold timesynclaw04_PtimeBytes.f
  repeat' first
      | (with_reducible exact timesynclaw04_awake.mono _)
      | (with_reducible exact timesyncref04_Decode.mono _ _)
      | (with_reducible exact timesyncref04_Encode.mono _ _ _)
      | (with_reducible exact LeO.refl _)
      | (with_reducible exact LeO.none _)
      | (with_reducible refine LeO.ite ?_ ?_)
      | (with_reducible refine LeO.bind ?_ (fun _ => ?_))
      | exact timesynclaw04_awake.mono _
      | exact timesyncref04_Decode.mono _ _
      | exact timesyncref04_Encode.mono _ _ _
      | exact LeO.none _
      | refine LeO.ite ?_ ?_
      | refine LeO.bind ?_ (fun _ => ?_)

/-! ### timesyncref04_digits: function 43 -/
def timesyncref04_digits.l0 : Nat → Int → Int → ByteArray → Int → Option (ByteArray)
  | 0, _, _, _, _ => none
  | k + 1, x0, x1, x5, x6 => if x6 < x1 then ((some (([(wrap64 (48 + (Int.tmod x0 10))) % 256] : List Int) : List Int)).bind fun y262 => (if (strOfNums y262).size + x5.size ≤ 9223372036854775807 then (timesyncref04_digits.l0 k (wrap64 (Int.tdiv x0 10)) x1 ((strOfNums y262) ++ x5) (wrap64 (x6 + 1))) else (none))) else (if x0 > 0 then ((some (([(wrap64 (48 + (Int.tmod x0 10))) % 256] : List Int) : List Int)).bind fun y265 => (if (strOfNums y265).size + x5.size ≤ 9223372036854775807 then (timesyncref04_digits.l0 k (wrap64 (Int.tdiv x0 10)) x1 ((strOfNums y265) ++ x5) (wrap64 (x6 + 1))) else (none))) else (some x5))
def timesyncref04_digits.f (k : Nat) (a0 : Int) (a1 : Int) : Option (ByteArray) := timesyncref04_digits.l0 k a0 a1 (⟨#[]⟩ : ByteArray) 0
theorem timesyncref04_digits.mono_l : ∀ k, (∀ y0 y1 y2 y3, LeO (timesyncref04_digits.l0 k y0 y1 y2 y3) (timesyncref04_digits.l0 (k + 1) y0 y1 y2 y3))
  | 0 => fun _ _ _ _ r h => by simp [timesyncref04_digits.l0] at h
  | k + 1 => by
    have ih0 := timesyncref04_digits.mono_l k
    · intro y0 y1 y2 y3
      unfold timesyncref04_digits.l0
      repeat' first
      | (with_reducible exact ih0 _ _ _ _)
      | (with_reducible exact LeO.refl _)
      | (with_reducible exact LeO.none _)
      | (with_reducible refine LeO.ite ?_ ?_)
      | (with_reducible refine LeO.bind ?_ (fun _ => ?_))
      | exact ih0 _ _ _ _
      | exact LeO.none _
      | refine LeO.ite ?_ ?_
      | refine LeO.bind ?_ (fun _ => ?_)
theorem timesyncref04_digits.mono : ∀ a0 a1 k, LeO (timesyncref04_digits.f k a0 a1) (timesyncref04_digits.f (k + 1) a0 a1) := by
  intro a0 a1 k
  have ih0 := timesyncref04_digits.mono_l k
  unfold timesyncref04_digits.f
  repeat' first
      | (with_reducible exact ih0 _ _ _ _)
      | (with_reducible exact LeO.refl _)
      | (with_reducible exact LeO.none _)
      | (with_reducible refine LeO.ite ?_ ?_)
      | (with_reducible refine LeO.bind ?_ (fun _ => ?_))
      | exact ih0 _ _ _ _
      | exact LeO.none _
      | refine LeO.ite ?_ ?_
      | refine LeO.bind ?_ (fun _ => ?_)

/-! ### timesyncref04_Text: function 28 -/
def timesyncref04_Text.f (k : Nat) (a0_0 : Int) (a0_1 : Int) : Option (ByteArray) := (timesyncref04_Check.f a0_0 a0_1).bind fun t269 => (if t269 = 0 then ((timesyncref04_digits.f k a0_0 1).bind fun t270 => (if t270.size + 1 ≤ 9223372036854775807 then ((timesyncref04_digits.f k a0_1 9).bind fun t271 => (if t270.size + 1 + t271.size ≤ 9223372036854775807 then (some ((t270 ++ (⟨#[46]⟩ : ByteArray)) ++ t271)) else (none))) else (none))) else (some (⟨#[]⟩ : ByteArray)))
theorem timesyncref04_Text.mono : ∀ a0 a1 k, LeO (timesyncref04_Text.f k a0 a1) (timesyncref04_Text.f (k + 1) a0 a1) := by
  intro a0 a1 k
  unfold timesyncref04_Text.f
  repeat' first
      | (with_reducible exact timesyncref04_digits.mono _ _ _)
      | (with_reducible exact LeO.refl _)
      | (with_reducible exact LeO.none _)
      | (with_reducible refine LeO.ite ?_ ?_)
      | (with_reducible refine LeO.bind ?_ (fun _ => ?_))
      | exact timesyncref04_digits.mono _ _ _
      | exact LeO.none _
      | refine LeO.ite ?_ ?_
      | refine LeO.bind ?_ (fun _ => ?_)

/-! ### ptime_Parse: function 29 -/
def ptime_Parse.j0 : Nat → ByteArray → ByteArray → ByteArray → Bool → Option (Int × Int × Int)
  | 0, _, _, _, _ => none
  | k + 1, x0, x4, x5, x26 => if x26 = true then (some (0, 0, 19)) else ((ptime_number.f x4).bind fun t276 => ((ptime_number.f x5).bind fun t277 => ((ptime_Text.f t276 t277).bind fun t279 => (if t279.toList = ([] : List UInt8) then (some (0, 0, 19)) else (if t279.toList = x0.toList then (some (t276, t277, 0)) else (some (0, 0, 19)))))))
def ptime_Parse.f (k : Nat) (a0 : ByteArray) : Option (Int × Int × Int) := (strings_Cut.f a0 (⟨#[46]⟩ : ByteArray)).bind fun bt273 => (if bt273.2.2 = true then (if (bt273.1.size : Int) > 15 then (ptime_Parse.j0 k a0 bt273.1 bt273.2.1 true) else (ptime_Parse.j0 k a0 bt273.1 bt273.2.1 ((bt273.2.1.size : Int) != 9))) else (ptime_Parse.j0 k a0 bt273.1 bt273.2.1 true))
theorem ptime_Parse.mono_l : ∀ k, (∀ y0 y1 y2 y3, LeO (ptime_Parse.j0 k y0 y1 y2 y3) (ptime_Parse.j0 (k + 1) y0 y1 y2 y3))
  | 0 => fun _ _ _ _ r h => by simp [ptime_Parse.j0] at h
  | k + 1 => by
    have ih0 := ptime_Parse.mono_l k
    · intro y0 y1 y2 y3
      unfold ptime_Parse.j0
      repeat' first
      | (with_reducible exact ih0 _ _ _ _)
      | (with_reducible exact LeO.refl _)
      | (with_reducible exact LeO.none _)
      | (with_reducible refine LeO.ite ?_ ?_)
      | (with_reducible refine LeO.bind ?_ (fun _ => ?_))
      | exact ih0 _ _ _ _
      | exact LeO.none _
      | refine LeO.ite ?_ ?_
      | refine LeO.bind ?_ (fun _ => ?_)
theorem ptime_Parse.mono : ∀ a0 k, LeO (ptime_Parse.f k a0) (ptime_Parse.f (k + 1) a0) := by
  intro a0 k
  have ih0 := ptime_Parse.mono_l k
  unfold ptime_Parse.f
  repeat' first
      | (with_reducible exact ih0 _ _ _ _)
      | (with_reducible exact LeO.refl _)
      | (with_reducible exact LeO.none _)
      | (with_reducible refine LeO.ite ?_ ?_)
      | (with_reducible refine LeO.bind ?_ (fun _ => ?_))
      | exact ih0 _ _ _ _
      | exact LeO.none _
      | refine LeO.ite ?_ ?_
      | refine LeO.bind ?_ (fun _ => ?_)

/-! ### timesyncref04_number: function 46 -/
mutual
def timesyncref04_number.j0 : Nat → ByteArray → Bool → Option (Int × Bool)
  | 0, _, _ => none
  | k + 1, x0, x12 => if x12 = true then (some (0, false)) else (timesyncref04_number.l0 k x0 0 0)
def timesyncref04_number.l0 : Nat → ByteArray → Int → Int → Option (Int × Bool)
  | 0, _, _, _ => none
  | k + 1, x0, x4, x5 => if x5 < (x0.size : Int) then (if 0 ≤ x5 then (if (bt x0 x5) < 48 then (some (0, false)) else (if (bt x0 x5) > 57 then (some (0, false)) else (timesyncref04_number.l0 k x0 (wrap64 ((wrap64 (10 * x4)) + (((bt x0 x5) - 48) % 256))) (wrap64 (x5 + 1))))) else (none)) else (some (x4, true))
end
def timesyncref04_number.f (k : Nat) (a0 : ByteArray) : Option (Int × Bool) := if a0.toList = ([] : List UInt8) then (timesyncref04_number.j0 k a0 true) else (timesyncref04_number.j0 k a0 (decide ((a0.size : Int) > 15)))
theorem timesyncref04_number.mono_l : ∀ k, (∀ y0 y1, LeO (timesyncref04_number.j0 k y0 y1) (timesyncref04_number.j0 (k + 1) y0 y1)) ∧ (∀ y0 y1 y2, LeO (timesyncref04_number.l0 k y0 y1 y2) (timesyncref04_number.l0 (k + 1) y0 y1 y2))
  | 0 => ⟨fun _ _ r h => by simp [timesyncref04_number.j0] at h, fun _ _ _ r h => by simp [timesyncref04_number.l0] at h⟩
  | k + 1 => by
    obtain ⟨ih0, ih1⟩ := timesyncref04_number.mono_l k
    refine ⟨?_, ?_⟩
    · intro y0 y1
      unfold timesyncref04_number.j0
      repeat' first
      | (with_reducible exact ih0 _ _)
      | (with_reducible exact ih1 _ _ _)
      | (with_reducible exact LeO.refl _)
      | (with_reducible exact LeO.none _)
      | (with_reducible refine LeO.ite ?_ ?_)
      | (with_reducible refine LeO.bind ?_ (fun _ => ?_))
      | exact ih0 _ _
      | exact ih1 _ _ _
      | exact LeO.none _
      | refine LeO.ite ?_ ?_
      | refine LeO.bind ?_ (fun _ => ?_)
    · intro y0 y1 y2
      unfold timesyncref04_number.l0
      repeat' first
      | (with_reducible exact ih0 _ _)
      | (with_reducible exact ih1 _ _ _)
      | (with_reducible exact LeO.refl _)
      | (with_reducible exact LeO.none _)
      | (with_reducible refine LeO.ite ?_ ?_)
      | (with_reducible refine LeO.bind ?_ (fun _ => ?_))
      | exact ih0 _ _
      | exact ih1 _ _ _
      | exact LeO.none _
      | refine LeO.ite ?_ ?_
      | refine LeO.bind ?_ (fun _ => ?_)
theorem timesyncref04_number.mono : ∀ a0 k, LeO (timesyncref04_number.f k a0) (timesyncref04_number.f (k + 1) a0) := by
  intro a0 k
  obtain ⟨ih0, ih1⟩ := timesyncref04_number.mono_l k
  unfold timesyncref04_number.f
  repeat' first
      | (with_reducible exact ih0 _ _)
      | (with_reducible exact ih1 _ _ _)
      | (with_reducible exact LeO.refl _)
      | (with_reducible exact LeO.none _)
      | (with_reducible refine LeO.ite ?_ ?_)
      | (with_reducible refine LeO.bind ?_ (fun _ => ?_))
      | exact ih0 _ _
      | exact ih1 _ _ _
      | exact LeO.none _
      | refine LeO.ite ?_ ?_
      | refine LeO.bind ?_ (fun _ => ?_)

/-! ### timesyncref04_Parse: function 30 -/
def timesyncref04_Parse.j0 : Nat → ByteArray → Bool → Option (Int × Int × Int)
  | 0, _, _ => none
  | k + 1, x0, x17 => if x17 = true then (some (0, 0, 19)) else (if 0 ≤ (wrap64 ((x0.size : Int) - 10)) then (if (wrap64 ((x0.size : Int) - 10)) ≤ (x0.size : Int) then ((timesyncref04_number.f k (x0.extract 0 ((wrap64 ((x0.size : Int) - 10)) : Int).toNat)).bind fun bt281 => (if 0 ≤ (wrap64 ((wrap64 ((x0.size : Int) - 10)) + 1)) then (if (wrap64 ((wrap64 ((x0.size : Int) - 10)) + 1)) ≤ (x0.size : Int) then ((timesyncref04_number.f k (x0.extract ((wrap64 ((wrap64 ((x0.size : Int) - 10)) + 1)) : Int).toNat x0.size)).bind fun bt283 => (if bt281.2 = true then (if bt283.2 = true then ((timesyncref04_Text.f k bt281.1 bt283.1).bind fun t286 => (if t286.toList = x0.toList then (some (bt281.1, bt283.1, 0)) else (some (0, 0, 19)))) else (some (0, 0, 19))) else (some (0, 0, 19)))) else (none)) else (none))) else (none)) else (none))
def timesyncref04_Parse.f (k : Nat) (a0 : ByteArray) : Option (Int × Int × Int) := if (a0.size : Int) < 11 then (timesyncref04_Parse.j0 k a0 true) else (timesyncref04_Parse.j0 k a0 (decide ((a0.size : Int) > 25)))
theorem timesyncref04_Parse.mono_l : ∀ k, (∀ y0 y1, LeO (timesyncref04_Parse.j0 k y0 y1) (timesyncref04_Parse.j0 (k + 1) y0 y1))
  | 0 => fun _ _ r h => by simp [timesyncref04_Parse.j0] at h
  | k + 1 => by
    have ih0 := timesyncref04_Parse.mono_l k
    · intro y0 y1
      unfold timesyncref04_Parse.j0
      repeat' first
      | (with_reducible exact ih0 _ _)
      | (with_reducible exact timesyncref04_Text.mono _ _ _)
      | (with_reducible exact timesyncref04_number.mono _ _)
      | (with_reducible exact LeO.refl _)
      | (with_reducible exact LeO.none _)
      | (with_reducible refine LeO.ite ?_ ?_)
      | (with_reducible refine LeO.bind ?_ (fun _ => ?_))
      | exact ih0 _ _
      | exact timesyncref04_Text.mono _ _ _
      | exact timesyncref04_number.mono _ _
      | exact LeO.none _
      | refine LeO.ite ?_ ?_
      | refine LeO.bind ?_ (fun _ => ?_)
theorem timesyncref04_Parse.mono : ∀ a0 k, LeO (timesyncref04_Parse.f k a0) (timesyncref04_Parse.f (k + 1) a0) := by
  intro a0 k
  have ih0 := timesyncref04_Parse.mono_l k
  unfold timesyncref04_Parse.f
  repeat' first
      | (with_reducible exact ih0 _ _)
      | (with_reducible exact timesyncref04_Text.mono _ _ _)
      | (with_reducible exact timesyncref04_number.mono _ _)
      | (with_reducible exact LeO.refl _)
      | (with_reducible exact LeO.none _)
      | (with_reducible refine LeO.ite ?_ ?_)
      | (with_reducible refine LeO.bind ?_ (fun _ => ?_))
      | exact ih0 _ _
      | exact timesyncref04_Text.mono _ _ _
      | exact timesyncref04_number.mono _ _
      | exact LeO.none _
      | refine LeO.ite ?_ ?_
      | refine LeO.bind ?_ (fun _ => ?_)

/-! ### timesynclaw04_PtimeTexts: function 7 -/
def timesynclaw04_PtimeTexts.f (k : Nat) (a0_0 : Int) (a0_1 : Int) (a1 : ByteArray) : Option (Bool) := (ptime_Text.f a0_0 a0_1).bind fun t288 => ((timesyncref04_Text.f k a0_0 a0_1).bind fun t289 => (if t288.toList = t289.toList then (if (a1.size : Int) > 200 then ((timesynclaw04_awake.f k).bind fun t290 => (some t290)) else ((ptime_Parse.f k a1).bind fun bt291 => ((timesyncref04_Parse.f k a1).bind fun bt295 => (if (bt291.1 == bt295.1 && (bt291.2.1 == bt295.2.1)) = true then (if bt291.2.2 = bt295.2.2 then ((timesynclaw04_awake.f k).bind fun t299 => (some t299)) else (some false)) else (some false))))) else (some false)))
theorem timesynclaw04_PtimeTexts.mono : ∀ a0 a1 a2 k, LeO (timesynclaw04_PtimeTexts.f k a0 a1 a2) (timesynclaw04_PtimeTexts.f (k + 1) a0 a1 a2) := by
  intro a0 a1 a2 k
  unfold timesynclaw04_PtimeTexts.f
  repeat' first
      | (with_reducible exact ptime_Parse.mono _ _)
      | (with_reducible exact timesynclaw04_awake.mono _)
      | (with_reducible exact timesyncref04_Parse.mono _ _)
      | (with_reducible exact timesyncref04_Text.mono _ _ _)
      | (with_reducible exact LeO.refl _)
      | (with_reducible exact LeO.none _)
      | (with_reducible refine LeO.ite ?_ ?_)
      | (with_reducible refine LeO.bind ?_ (fun _ => ?_))
      | exact ptime_Parse.mono _ _
      | exact timesynclaw04_awake.mono _
      | exact timesyncref04_Parse.mono _ _
      | exact timesyncref04_Text.mono _ _ _
      | exact LeO.none _
      | refine LeO.ite ?_ ?_
      | refine LeO.bind ?_ (fun _ => ?_)

/-! ### timesynclaw04_PtimeBack: function 8 -/
def timesynclaw04_PtimeBack.j0 : Nat → Bool → Int → Int → Option (Bool)
  | 0, _, _, _ => none
  | k + 1, x84, x301000, x301001 => if x84 = true then (some false) else ((ptime_Time.f k x301000 x301001).bind fun bt323 => (if bt323.2 = 0 then ((ptime_Of.f bt323.1).bind fun bt325 => (if bt325.2.2 = 0 then (if (bt325.1 == x301000 && (bt325.2.1 == x301001)) = true then (if bt323.1 ≤ 8000000000000000000 then ((timesynclaw04_awake.f k).bind fun t329 => (some t329)) else (some false)) else (some false)) else (some false))) else (if x301000 ≥ 5791011200 then ((timesynclaw04_awake.f k).bind fun t330 => (some t330)) else (some false))))
def timesynclaw04_PtimeBack.f (k : Nat) (a0_0 : Int) (a0_1 : Int) : Option (Bool) := (ptime_Check.f a0_0 a0_1).bind fun t301 => (if t301 = 0 then ((ptime_Encode.f a0_0 a0_1).bind fun bt310 => ((ptime_Decode.f bt310.1).bind fun bt314 => ((ptime_Text.f a0_0 a0_1).bind fun t318 => ((ptime_Parse.f k t318).bind fun bt319 => (if bt310.2 = 0 then (if bt314.2.2 = 0 then (if bt319.2.2 = 0 then (if (!(bt314.1 == a0_0) || (!(bt314.2.1 == a0_1))) = true then (timesynclaw04_PtimeBack.j0 k true a0_0 a0_1) else (if (!(bt319.1 == a0_0) || (!(bt319.2.1 == a0_1))) = true then (timesynclaw04_PtimeBack.j0 k true a0_0 a0_1) else (timesynclaw04_PtimeBack.j0 k ((bt310.1.length : Int) != 10) a0_0 a0_1))) else (timesynclaw04_PtimeBack.j0 k true a0_0 a0_1)) else (timesynclaw04_PtimeBack.j0 k true a0_0 a0_1)) else (timesynclaw04_PtimeBack.j0 k true a0_0 a0_1)))))) else ((ptime_Encode.f a0_0 a0_1).bind fun bt302 => ((ptime_Time.f k a0_0 a0_1).bind fun bt306 => (if bt302.2 = 3 then (if bt306.2 = 3 then ((ptime_Text.f a0_0 a0_1).bind fun t308 => (if t308.toList = ([] : List UInt8) then ((timesynclaw04_awake.f k).bind fun t309 => (some t309)) else (some false))) else (some false)) else (some false)))))
theorem timesynclaw04_PtimeBack.mono_l : ∀ k, (∀ y0 y1 y2, LeO (timesynclaw04_PtimeBack.j0 k y0 y1 y2) (timesynclaw04_PtimeBack.j0 (k + 1) y0 y1 y2))
  | 0 => fun _ _ _ r h => by simp [timesynclaw04_PtimeBack.j0] at h
  | k + 1 => by
    have ih0 := timesynclaw04_PtimeBack.mono_l k
    · intro y0 y1 y2
      unfold timesynclaw04_PtimeBack.j0
      repeat' first
      | (with_reducible exact ih0 _ _ _)
      | (with_reducible exact ptime_Parse.mono _ _)
      | (with_reducible exact ptime_Time.mono _ _ _)
      | (with_reducible exact timesynclaw04_awake.mono _)
      | (with_reducible exact LeO.refl _)
      | (with_reducible exact LeO.none _)
      | (with_reducible refine LeO.ite ?_ ?_)
      | (with_reducible refine LeO.bind ?_ (fun _ => ?_))
      | exact ih0 _ _ _
      | exact ptime_Parse.mono _ _
      | exact ptime_Time.mono _ _ _
      | exact timesynclaw04_awake.mono _
      | exact LeO.none _
      | refine LeO.ite ?_ ?_
      | refine LeO.bind ?_ (fun _ => ?_)
theorem timesynclaw04_PtimeBack.mono : ∀ a0 a1 k, LeO (timesynclaw04_PtimeBack.f k a0 a1) (timesynclaw04_PtimeBack.f (k + 1) a0 a1) := by
  intro a0 a1 k
  have ih0 := timesynclaw04_PtimeBack.mono_l k
  unfold timesynclaw04_PtimeBack.f
  repeat' first
      | (with_reducible exact ih0 _ _ _)
      | (with_reducible exact ptime_Parse.mono _ _)
      | (with_reducible exact ptime_Time.mono _ _ _)
      | (with_reducible exact timesynclaw04_awake.mono _)
      | (with_reducible exact LeO.refl _)
      | (with_reducible exact LeO.none _)
      | (with_reducible refine LeO.ite ?_ ?_)
      | (with_reducible refine LeO.bind ?_ (fun _ => ?_))
      | exact ih0 _ _ _
      | exact ptime_Parse.mono _ _
      | exact ptime_Time.mono _ _ _
      | exact timesynclaw04_awake.mono _
      | exact LeO.none _
      | refine LeO.ite ?_ ?_
      | refine LeO.bind ?_ (fun _ => ?_)

end Go.Proofs.YtdhoidhbhkgfgaaDoor.M
