-- printed
import Derived.Test.YtipbkcilpnlgnaaDoorM0
import Derived.Test.YtipbkcilpnlgnaaDoorMC
import Derived.Test.YtipbkcilpnlgnaaDoorExtD
namespace Go.Proofs.YtipbkcilpnlgnaaDoor.M
open Go.RowKit Go.Proofs.YtipbkcilpnlgnaaDoorG Go.Proofs.YtipbkcilpnlgnaaDoorW.PA Go.Proofs.YtipbkcilpnlgnaaDoorW.PB Go.Proofs.YtipbkcilpnlgnaaDoorW.PC
attribute [local go_sem] max2_int min2_int max_two min_two max_three min_three max_four min_four   -- for this text's walks alone
set_option linter.unusedVariables false
set_option linter.unusedSimpArgs false
/-! ### w6_awake: function 10 -/
mutual
def w6_awake.j0 : Nat → Bool → Int → Int → List (S44) → Option (Bool)
  | 0, _, _, _, _ => none
  | k + 1, x59, x174000, x174001, x174002 => if x59 = true then (some false) else ((leap_Indicator.f k x174000 x174001 x174002 3692217599).bind fun t182 => (if t182 = 1 then ((leap_Indicator.f k x174000 x174001 x174002 3689539200).bind fun t183 => (if t183 = 1 then ((leap_Indicator.f k x174000 x174001 x174002 3689539199).bind fun t184 => (if t184 = 0 then ((leap_Indicator.f k x174000 x174001 x174002 3692217600).bind fun t185 => (if t185 = 0 then ((leap_Indicator.f k x174000 x174001 x174002 3900000000).bind fun t186 => (w6_awake.j1 k (t186 != 3) x174000 x174001 x174002)) else (w6_awake.j1 k true x174000 x174001 x174002))) else (w6_awake.j1 k true x174000 x174001 x174002))) else (w6_awake.j1 k true x174000 x174001 x174002))) else (w6_awake.j1 k true x174000 x174001 x174002)))
def w6_awake.j1 : Nat → Bool → Int → Int → List (S44) → Option (Bool)
  | 0, _, _, _, _ => none
  | k + 1, x82, x174000, x174001, x174002 => if x82 = true then (some false) else ((leap_Parse.f (⟨#[35, 32, 108, 101, 97, 112, 32, 115, 101, 99, 111, 110, 100, 115, 10, 35, 64, 9, 51, 57, 48, 48, 48, 48, 48, 48, 48, 48, 10, 35, 61, 32, 51, 54, 32, 10, 10, 51, 54, 57, 50, 50, 49, 55, 54, 48, 48, 9, 51, 55, 32, 35, 32, 50, 48, 49, 55]⟩ : ByteArray)).bind fun bt187 => ((leap_Next.f k x174000 x174001 x174002 0).bind fun bt194 => ((some (([(⟨3692217600, 35⟩ : S44)] : List (S44)) : List (S44))).bind fun y198 => ((leap_TAI.f k x174000 x174001 y198 3692217599 false).bind fun bt201 => (if 0 < (y198.length : Int) then ((some (y198.set (0 : Int).toNat (⟨(rd_T44 y198 0).f0, 37⟩ : S44) : List (S44))).bind fun y203 => ((leap_Text.f x174000 x174001 y203).bind fun t204 => (if t204.toList = ([35, 64, 32, 51, 57, 48, 48, 48, 48, 48, 48, 48, 48, 10, 35, 61, 32, 51, 54, 10, 51, 54, 57, 50, 50, 49, 55, 54, 48, 48, 32, 51, 55, 10] : List UInt8) then ((w6_same.f k bt187.1 bt187.2.1 bt187.2.2.1 x174000 x174001 y203).bind fun t205 => (if t205 = true then (if bt187.2.2.2 = 0 then (if (bt194.1 == ((rd_T44 y203 0).f0) && (bt194.2.1 == ((rd_T44 y203 0).f1))) = true then (if bt194.2.2 = true then (some (bt201.2 == 11)) else (some false)) else (some false)) else (some false)) else (some false))) else (some false)))) else (none))))))
end
def w6_awake.f (k : Nat)  : Option (Bool) := (some (([(⟨3692217600, 37⟩ : S44)] : List (S44)) : List (S44))).bind fun y170 => ((leap_TAI.f k 36 3900000000 y170 3692217599 true).bind fun bt174 => ((leap_UTC.f k 36 3900000000 y170 3692217636).bind fun bt176 => ((leap_Check.f k 36 3900000000 y170).bind fun t179 => (if t179 = 0 then ((leap_Offset.f k 36 3900000000 y170 3692217599).bind fun t180 => (if t180 = 36 then ((leap_Offset.f k 36 3900000000 y170 3692217600).bind fun t181 => (if t181 = 37 then (if bt174.1 = 3692217636 then (if bt174.2 = 0 then (if bt176.1 = 3692217599 then (if bt176.2.1 = true then (w6_awake.j0 k (bt176.2.2 != 0) 36 3900000000 y170) else (w6_awake.j0 k true 36 3900000000 y170)) else (w6_awake.j0 k true 36 3900000000 y170)) else (w6_awake.j0 k true 36 3900000000 y170)) else (w6_awake.j0 k true 36 3900000000 y170)) else (w6_awake.j0 k true 36 3900000000 y170))) else (w6_awake.j0 k true 36 3900000000 y170))) else (w6_awake.j0 k true 36 3900000000 y170)))))
theorem w6_awake.mono_l : ∀ k, (∀ y0 y1 y2 y3, LeO (w6_awake.j0 k y0 y1 y2 y3) (w6_awake.j0 (k + 1) y0 y1 y2 y3)) ∧ (∀ y0 y1 y2 y3, LeO (w6_awake.j1 k y0 y1 y2 y3) (w6_awake.j1 (k + 1) y0 y1 y2 y3))
  | 0 => ⟨fun _ _ _ _ r h => by simp [w6_awake.j0] at h, fun _ _ _ _ r h => by simp [w6_awake.j1] at h⟩
  | k + 1 => by
    obtain ⟨ih0, ih1⟩ := w6_awake.mono_l k
    refine ⟨?_, ?_⟩
    · intro y0 y1 y2 y3
      unfold w6_awake.j0
      repeat' first
      | (with_reducible exact ih0 _ _ _ _)
      | (with_reducible exact ih1 _ _ _ _)
      | (with_reducible exact leap_Check.mono _ _ _ _)
      | (with_reducible exact leap_Indicator.mono _ _ _ _ _)
      | (with_reducible exact leap_Next.mono _ _ _ _ _)
      | (with_reducible exact leap_Offset.mono _ _ _ _ _)
      | (with_reducible exact leap_TAI.mono _ _ _ _ _ _)
      | (with_reducible exact leap_UTC.mono _ _ _ _ _)
      | (with_reducible exact w6_same.mono _ _ _ _ _ _ _)
      | (with_reducible exact LeO.refl _)
      | (with_reducible exact LeO.none _)
      | (with_reducible refine LeO.ite ?_ ?_)
      | (with_reducible refine LeO.bind ?_ (fun _ => ?_))
      | exact ih0 _ _ _ _
      | exact ih1 _ _ _ _
      | exact leap_Check.mono _ _ _ _
      | exact leap_Indicator.mono _ _ _ _ _
      | exact leap_Next.mono _ _ _ _ _
      | exact leap_Offset.mono _ _ _ _ _
      | exact leap_TAI.mono _ _ _ _ _ _
      | exact leap_UTC.mono _ _ _ _ _
      | exact w6_same.mono _ _ _ _ _ _ _
      | exact LeO.none _
      | refine LeO.ite ?_ ?_
      | refine LeO.bind ?_ (fun _ => ?_)
    · intro y0 y1 y2 y3
      unfold w6_awake.j1
      repeat' first
      | (with_reducible exact ih0 _ _ _ _)
      | (with_reducible exact ih1 _ _ _ _)
      | (with_reducible exact leap_Check.mono _ _ _ _)
      | (with_reducible exact leap_Indicator.mono _ _ _ _ _)
      | (with_reducible exact leap_Next.mono _ _ _ _ _)
      | (with_reducible exact leap_Offset.mono _ _ _ _ _)
      | (with_reducible exact leap_TAI.mono _ _ _ _ _ _)
      | (with_reducible exact leap_UTC.mono _ _ _ _ _)
      | (with_reducible exact w6_same.mono _ _ _ _ _ _ _)
      | (with_reducible exact LeO.refl _)
      | (with_reducible exact LeO.none _)
      | (with_reducible refine LeO.ite ?_ ?_)
      | (with_reducible refine LeO.bind ?_ (fun _ => ?_))
      | exact ih0 _ _ _ _
      | exact ih1 _ _ _ _
      | exact leap_Check.mono _ _ _ _
      | exact leap_Indicator.mono _ _ _ _ _
      | exact leap_Next.mono _ _ _ _ _
      | exact leap_Offset.mono _ _ _ _ _
      | exact leap_TAI.mono _ _ _ _ _ _
      | exact leap_UTC.mono _ _ _ _ _
      | exact w6_same.mono _ _ _ _ _ _ _
      | exact LeO.none _
      | refine LeO.ite ?_ ?_
      | refine LeO.bind ?_ (fun _ => ?_)
theorem w6_awake.mono : ∀ k, LeO (w6_awake.f k ) (w6_awake.f (k + 1) ) := by
  intro  k
  obtain ⟨ih0, ih1⟩ := w6_awake.mono_l k
  unfold w6_awake.f
  repeat' first
      | (with_reducible exact ih0 _ _ _ _)
      | (with_reducible exact ih1 _ _ _ _)
      | (with_reducible exact leap_Check.mono _ _ _ _)
      | (with_reducible exact leap_Indicator.mono _ _ _ _ _)
      | (with_reducible exact leap_Next.mono _ _ _ _ _)
      | (with_reducible exact leap_Offset.mono _ _ _ _ _)
      | (with_reducible exact leap_TAI.mono _ _ _ _ _ _)
      | (with_reducible exact leap_UTC.mono _ _ _ _ _)
      | (with_reducible exact w6_same.mono _ _ _ _ _ _ _)
      | (with_reducible exact LeO.refl _)
      | (with_reducible exact LeO.none _)
      | (with_reducible refine LeO.ite ?_ ?_)
      | (with_reducible refine LeO.bind ?_ (fun _ => ?_))
      | exact ih0 _ _ _ _
      | exact ih1 _ _ _ _
      | exact leap_Check.mono _ _ _ _
      | exact leap_Indicator.mono _ _ _ _ _
      | exact leap_Next.mono _ _ _ _ _
      | exact leap_Offset.mono _ _ _ _ _
      | exact leap_TAI.mono _ _ _ _ _ _
      | exact leap_UTC.mono _ _ _ _ _
      | exact w6_same.mono _ _ _ _ _ _ _
      | exact LeO.none _
      | refine LeO.ite ?_ ?_
      | refine LeO.bind ?_ (fun _ => ?_)

/-! ### r6_in: function 27 -/
def r6_in.f (a0 : Int) (a1 : Int) : Option (Bool) := if a0 ≥ (wrap64 (-a1)) then (some (decide (a0 ≤ a1))) else (some false)

/-! ### r01_product: function 95 -/
def r01_product.f (a0 : Int) (a1 : Int) : Option (Int × Int) := some (IntKind.u64.wrap ((IntKind.u64.wrap ((IntKind.u64.wrap ((IntKind.u64.wrap (Int.tdiv a0 4294967296)) * (IntKind.u64.wrap (Int.tdiv a1 4294967296)))) + (IntKind.u64.wrap (Int.tdiv (IntKind.u64.wrap ((IntKind.u64.wrap ((IntKind.u64.wrap (Int.tdiv a0 4294967296)) * (Int.tmod a1 4294967296))) + (IntKind.u64.wrap (Int.tdiv (IntKind.u64.wrap ((Int.tmod a0 4294967296) * (Int.tmod a1 4294967296))) 4294967296)))) 4294967296)))) + (IntKind.u64.wrap (Int.tdiv (IntKind.u64.wrap ((IntKind.u64.wrap ((Int.tmod a0 4294967296) * (IntKind.u64.wrap (Int.tdiv a1 4294967296)))) + (Int.tmod (IntKind.u64.wrap ((IntKind.u64.wrap ((IntKind.u64.wrap (Int.tdiv a0 4294967296)) * (Int.tmod a1 4294967296))) + (IntKind.u64.wrap (Int.tdiv (IntKind.u64.wrap ((Int.tmod a0 4294967296) * (Int.tmod a1 4294967296))) 4294967296)))) 4294967296))) 4294967296))), IntKind.u64.wrap ((IntKind.u64.wrap ((Int.tmod (IntKind.u64.wrap ((IntKind.u64.wrap ((Int.tmod a0 4294967296) * (IntKind.u64.wrap (Int.tdiv a1 4294967296)))) + (Int.tmod (IntKind.u64.wrap ((IntKind.u64.wrap ((IntKind.u64.wrap (Int.tdiv a0 4294967296)) * (Int.tmod a1 4294967296))) + (IntKind.u64.wrap (Int.tdiv (IntKind.u64.wrap ((Int.tmod a0 4294967296) * (Int.tmod a1 4294967296))) 4294967296)))) 4294967296))) 4294967296) * 4294967296)) + (Int.tmod (IntKind.u64.wrap ((Int.tmod a0 4294967296) * (Int.tmod a1 4294967296))) 4294967296)))

/-! ### r01_size: function 96 -/
def r01_size.f (a0 : Int) : Option (Int) := if a0 < 0 then (some (IntKind.u64.wrap ((IntKind.u64.wrap (wrap64 (-(wrap64 (a0 + 1))))) + 1))) else (some (IntKind.u64.wrap (a0)))

/-! ### r01_divide: function 97 -/
def r01_divide.l0 : Nat → Int → Int → Int → Int → Int → Int → Int → Option (Int × Int × Int)
  | 0, _, _, _, _, _, _, _ => none
  | k + 1, x0, x1, x2, x9, x10, x11, x12 => if x12 < 128 then (if (x11 / 9223372036854775808) = 1 then (r01_divide.l0 k (Go.bits .or .u64 (IntKind.u64.wrap (x0 * 2)) (x1 / 9223372036854775808)) (IntKind.u64.wrap (x1 * 2)) x2 (Go.bits .or .u64 (IntKind.u64.wrap (x9 * 2)) (x10 / 9223372036854775808)) (Go.bits .or .u64 (IntKind.u64.wrap (x10 * 2)) 1) (IntKind.u64.wrap ((Go.bits .or .u64 (IntKind.u64.wrap (x11 * 2)) (x0 / 9223372036854775808)) - x2)) (wrap64 (x12 + 1))) else (if (Go.bits .or .u64 (IntKind.u64.wrap (x11 * 2)) (x0 / 9223372036854775808)) ≥ x2 then (r01_divide.l0 k (Go.bits .or .u64 (IntKind.u64.wrap (x0 * 2)) (x1 / 9223372036854775808)) (IntKind.u64.wrap (x1 * 2)) x2 (Go.bits .or .u64 (IntKind.u64.wrap (x9 * 2)) (x10 / 9223372036854775808)) (Go.bits .or .u64 (IntKind.u64.wrap (x10 * 2)) 1) (IntKind.u64.wrap ((Go.bits .or .u64 (IntKind.u64.wrap (x11 * 2)) (x0 / 9223372036854775808)) - x2)) (wrap64 (x12 + 1))) else (r01_divide.l0 k (Go.bits .or .u64 (IntKind.u64.wrap (x0 * 2)) (x1 / 9223372036854775808)) (IntKind.u64.wrap (x1 * 2)) x2 (Go.bits .or .u64 (IntKind.u64.wrap (x9 * 2)) (x10 / 9223372036854775808)) (IntKind.u64.wrap (x10 * 2)) (Go.bits .or .u64 (IntKind.u64.wrap (x11 * 2)) (x0 / 9223372036854775808)) (wrap64 (x12 + 1))))) else (some (x9, x10, x11))
def r01_divide.f (k : Nat) (a0 : Int) (a1 : Int) (a2 : Int) : Option (Int × Int × Int) := r01_divide.l0 k a0 a1 a2 0 0 0 0
theorem r01_divide.mono_l : ∀ k, (∀ y0 y1 y2 y3 y4 y5 y6, LeO (r01_divide.l0 k y0 y1 y2 y3 y4 y5 y6) (r01_divide.l0 (k + 1) y0 y1 y2 y3 y4 y5 y6))
  | 0 => fun _ _ _ _ _ _ _ r h => by simp [r01_divide.l0] at h
  | k + 1 => by
    have ih0 := r01_divide.mono_l k
    · intro y0 y1 y2 y3 y4 y5 y6
      unfold r01_divide.l0
      repeat' first
      | (with_reducible exact ih0 _ _ _ _ _ _ _)
      | (with_reducible exact LeO.refl _)
      | (with_reducible exact LeO.none _)
      | (with_reducible refine LeO.ite ?_ ?_)
      | (with_reducible refine LeO.bind ?_ (fun _ => ?_))
      | exact ih0 _ _ _ _ _ _ _
      | exact LeO.none _
      | refine LeO.ite ?_ ?_
      | refine LeO.bind ?_ (fun _ => ?_)
theorem r01_divide.mono : ∀ a0 a1 a2 k, LeO (r01_divide.f k a0 a1 a2) (r01_divide.f (k + 1) a0 a1 a2) := by
  intro a0 a1 a2 k
  have ih0 := r01_divide.mono_l k
  unfold r01_divide.f
  repeat' first
      | (with_reducible exact ih0 _ _ _ _ _ _ _)
      | (with_reducible exact LeO.refl _)
      | (with_reducible exact LeO.none _)
      | (with_reducible refine LeO.ite ?_ ?_)
      | (with_reducible refine LeO.bind ?_ (fun _ => ?_))
      | exact ih0 _ _ _ _ _ _ _
      | exact LeO.none _
      | refine LeO.ite ?_ ?_
      | refine LeO.bind ?_ (fun _ => ?_)

/-! ### r01_signed: function 98 -/
def r01_signed.j0 : Nat → Bool → Int → Bool → Option (Int × Bool)
  | 0, _, _, _ => none
  | k + 1, x0, x2, x21 => if x21 = true then (some (0, false)) else (if x0 = true then (if x2 = 0 then (some (0, true)) else (some (wrap64 ((wrap64 (-(wrap64 (IntKind.u64.wrap (x2 - 1))))) - 1), true))) else (some (wrap64 (x2), true)))
def r01_signed.f (k : Nat) (a0 : Bool) (a1 : Int) (a2 : Int) : Option (Int × Bool) := if a1 > 0 then (r01_signed.j0 k a0 a2 true) else (if a2 > 9223372036854775808 then (r01_signed.j0 k a0 a2 true) else (if a2 = 9223372036854775808 then (r01_signed.j0 k a0 a2 (!a0)) else (r01_signed.j0 k a0 a2 false)))
theorem r01_signed.mono_l : ∀ k, (∀ y0 y1 y2, LeO (r01_signed.j0 k y0 y1 y2) (r01_signed.j0 (k + 1) y0 y1 y2))
  | 0 => fun _ _ _ r h => by simp [r01_signed.j0] at h
  | k + 1 => by
    have ih0 := r01_signed.mono_l k
    · intro y0 y1 y2
      unfold r01_signed.j0
      repeat' first
      | (with_reducible exact ih0 _ _ _)
      | (with_reducible exact LeO.refl _)
      | (with_reducible exact LeO.none _)
      | (with_reducible refine LeO.ite ?_ ?_)
      | (with_reducible refine LeO.bind ?_ (fun _ => ?_))
      | exact ih0 _ _ _
      | exact LeO.none _
      | refine LeO.ite ?_ ?_
      | refine LeO.bind ?_ (fun _ => ?_)
theorem r01_signed.mono : ∀ a0 a1 a2 k, LeO (r01_signed.f k a0 a1 a2) (r01_signed.f (k + 1) a0 a1 a2) := by
  intro a0 a1 a2 k
  have ih0 := r01_signed.mono_l k
  unfold r01_signed.f
  repeat' first
      | (with_reducible exact ih0 _ _ _)
      | (with_reducible exact LeO.refl _)
      | (with_reducible exact LeO.none _)
      | (with_reducible refine LeO.ite ?_ ?_)
      | (with_reducible refine LeO.bind ?_ (fun _ => ?_))
      | exact ih0 _ _ _
      | exact LeO.none _
      | refine LeO.ite ?_ ?_
      | refine LeO.bind ?_ (fun _ => ?_)

/-! ### r01_MulDiv: function 84 -/
def r01_MulDiv.j0 : Nat → Int → Int → Bool → Bool → Option (Int × Bool)
  | 0, _, _, _, _ => none
  | k + 1, x10, x11, x13, x45 => if x45 = true then (if (IntKind.u64.wrap (x11 + 1)) = 0 then ((r01_signed.f k x13 (IntKind.u64.wrap (x10 + 1)) (IntKind.u64.wrap (x11 + 1))).bind fun bt215 => (some (bt215.1, bt215.2))) else ((r01_signed.f k x13 x10 (IntKind.u64.wrap (x11 + 1))).bind fun bt217 => (some (bt217.1, bt217.2)))) else ((r01_signed.f k x13 x10 x11).bind fun bt219 => (some (bt219.1, bt219.2)))
def r01_MulDiv.f (k : Nat) (a0 : Int) (a1 : Int) (a2 : Int) : Option (Int × Bool) := if a2 = 0 then (some (0, false)) else ((r01_size.f a0).bind fun t207 => ((r01_size.f a1).bind fun t208 => ((r01_product.f t207 t208).bind fun bt209 => ((r01_size.f a2).bind fun t211 => ((r01_divide.f k bt209.1 bt209.2 t211).bind fun bt212 => (if (((decide (a0 < 0)) != (decide (a1 < 0))) != (decide (a2 < 0))) = true then (r01_MulDiv.j0 k bt212.1 bt212.2.1 (((decide (a0 < 0)) != (decide (a1 < 0))) != (decide (a2 < 0))) (decide (bt212.2.2 > 0))) else (r01_MulDiv.j0 k bt212.1 bt212.2.1 (((decide (a0 < 0)) != (decide (a1 < 0))) != (decide (a2 < 0))) false)))))))
theorem r01_MulDiv.mono_l : ∀ k, (∀ y0 y1 y2 y3, LeO (r01_MulDiv.j0 k y0 y1 y2 y3) (r01_MulDiv.j0 (k + 1) y0 y1 y2 y3))
  | 0 => fun _ _ _ _ r h => by simp [r01_MulDiv.j0] at h
  | k + 1 => by
    have ih0 := r01_MulDiv.mono_l k
    · intro y0 y1 y2 y3
      unfold r01_MulDiv.j0
      repeat' first
      | (with_reducible exact ih0 _ _ _ _)
      | (with_reducible exact r01_divide.mono _ _ _ _)
      | (with_reducible exact r01_signed.mono _ _ _ _)
      | (with_reducible exact LeO.refl _)
      | (with_reducible exact LeO.none _)
      | (with_reducible refine LeO.ite ?_ ?_)
      | (with_reducible refine LeO.bind ?_ (fun _ => ?_))
      | exact ih0 _ _ _ _
      | exact r01_divide.mono _ _ _ _
      | exact r01_signed.mono _ _ _ _
      | exact LeO.none _
      | refine LeO.ite ?_ ?_
      | refine LeO.bind ?_ (fun _ => ?_)
theorem r01_MulDiv.mono : ∀ a0 a1 a2 k, LeO (r01_MulDiv.f k a0 a1 a2) (r01_MulDiv.f (k + 1) a0 a1 a2) := by
  intro a0 a1 a2 k
  have ih0 := r01_MulDiv.mono_l k
  unfold r01_MulDiv.f
  repeat' first
      | (with_reducible exact ih0 _ _ _ _)
      | (with_reducible exact r01_divide.mono _ _ _ _)
      | (with_reducible exact r01_signed.mono _ _ _ _)
      | (with_reducible exact LeO.refl _)
      | (with_reducible exact LeO.none _)
      | (with_reducible refine LeO.ite ?_ ?_)
      | (with_reducible refine LeO.bind ?_ (fun _ => ?_))
      | exact ih0 _ _ _ _
      | exact r01_divide.mono _ _ _ _
      | exact r01_signed.mono _ _ _ _
      | exact LeO.none _
      | refine LeO.ite ?_ ?_
      | refine LeO.bind ?_ (fun _ => ?_)

/-! ### r01_Floor: function 68 -/
def r01_Floor.f (k : Nat) (a0 : Int) (a1 : Int) : Option (Int × Bool) := (r01_MulDiv.f k a0 1 a1).bind fun bt221 => (some (bt221.1, bt221.2))
theorem r01_Floor.mono : ∀ a0 a1 k, LeO (r01_Floor.f k a0 a1) (r01_Floor.f (k + 1) a0 a1) := by
  intro a0 a1 k
  unfold r01_Floor.f
  repeat' first
      | (with_reducible exact r01_MulDiv.mono _ _ _ _)
      | (with_reducible exact LeO.refl _)
      | (with_reducible exact LeO.none _)
      | (with_reducible refine LeO.ite ?_ ?_)
      | (with_reducible refine LeO.bind ?_ (fun _ => ?_))
      | exact r01_MulDiv.mono _ _ _ _
      | exact LeO.none _
      | refine LeO.ite ?_ ?_
      | refine LeO.bind ?_ (fun _ => ?_)

/-! ### r05_dayOf: function 53 -/
def r05_dayOf.f (k : Nat) (a0 : Int) : Option (Int) := (r01_Floor.f k a0 86400).bind fun bt223 => (some bt223.1)
theorem r05_dayOf.mono : ∀ a0 k, LeO (r05_dayOf.f k a0) (r05_dayOf.f (k + 1) a0) := by
  intro a0 k
  unfold r05_dayOf.f
  repeat' first
      | (with_reducible exact r01_Floor.mono _ _ _)
      | (with_reducible exact LeO.refl _)
      | (with_reducible exact LeO.none _)
      | (with_reducible refine LeO.ite ?_ ?_)
      | (with_reducible refine LeO.bind ?_ (fun _ => ?_))
      | exact r01_Floor.mono _ _ _
      | exact LeO.none _
      | refine LeO.ite ?_ ?_
      | refine LeO.bind ?_ (fun _ => ?_)

/-! ### r05_isLeap: function 69 -/
def r05_isLeap.f (a0 : Int) : Option (Bool) := if (Int.tmod a0 4) = 0 then (if (Int.tmod a0 100) = 0 then (some ((Int.tmod a0 400) == 0)) else (some true)) else (some false)

/-! ### r05_yearDays: function 54 -/
def r05_yearDays.f (a0 : Int) : Option (Int) := (r05_isLeap.f a0).bind fun t225 => (if t225 = true then (some 366) else (some 365))

/-! ### r05_MonthDays: function 55 -/
mutual
def r05_MonthDays.j0 : Nat → Int → Int → Bool → Option (Int)
  | 0, _, _, _ => none
  | k + 1, x0, x5, x6 => if x6 = true then (some 31) else (if x5 = 4 then (r05_MonthDays.j1 k x0 x5 (x5 == 4)) else (if x5 = 6 then (r05_MonthDays.j1 k x0 x5 (x5 == 6)) else (if x5 = 9 then (r05_MonthDays.j1 k x0 x5 (x5 == 9)) else (r05_MonthDays.j1 k x0 x5 (x5 == 11)))))
def r05_MonthDays.j1 : Nat → Int → Int → Bool → Option (Int)
  | 0, _, _, _ => none
  | k + 1, x0, x5, x14 => if x14 = true then (some 30) else (if x5 = 2 then ((r05_isLeap.f x0).bind fun t226 => (if t226 = true then (some 29) else (some 28))) else (some 0))
end
def r05_MonthDays.f (k : Nat) (a0 : Int) (a1 : Int) : Option (Int) := if a1 = 1 then (r05_MonthDays.j0 k a0 a1 (a1 == 1)) else (if a1 = 3 then (r05_MonthDays.j0 k a0 a1 (a1 == 3)) else (if a1 = 5 then (r05_MonthDays.j0 k a0 a1 (a1 == 5)) else (if a1 = 7 then (r05_MonthDays.j0 k a0 a1 (a1 == 7)) else (if a1 = 8 then (r05_MonthDays.j0 k a0 a1 (a1 == 8)) else (if a1 = 10 then (r05_MonthDays.j0 k a0 a1 (a1 == 10)) else (r05_MonthDays.j0 k a0 a1 (a1 == 12)))))))
theorem r05_MonthDays.mono_l : ∀ k, (∀ y0 y1 y2, LeO (r05_MonthDays.j0 k y0 y1 y2) (r05_MonthDays.j0 (k + 1) y0 y1 y2)) ∧ (∀ y0 y1 y2, LeO (r05_MonthDays.j1 k y0 y1 y2) (r05_MonthDays.j1 (k + 1) y0 y1 y2))
  | 0 => ⟨fun _ _ _ r h => by simp [r05_MonthDays.j0] at h, fun _ _ _ r h => by simp [r05_MonthDays.j1] at h⟩
  | k + 1 => by
    obtain ⟨ih0, ih1⟩ := r05_MonthDays.mono_l k
    refine ⟨?_, ?_⟩
    · intro y0 y1 y2
      unfold r05_MonthDays.j0
      repeat' first
      | (with_reducible exact ih0 _ _ _)
      | (with_reducible exact ih1 _ _ _)
      | (with_reducible exact LeO.refl _)
      | (with_reducible exact LeO.none _)
      | (with_reducible refine LeO.ite ?_ ?_)
      | (with_reducible refine LeO.bind ?_ (fun _ => ?_))
      | exact ih0 _ _ _
      | exact ih1 _ _ _
      | exact LeO.none _
      | refine LeO.ite ?_ ?_
      | refine LeO.bind ?_ (fun _ => ?_)
    · intro y0 y1 y2
      unfold r05_MonthDays.j1
      repeat' first
      | (with_reducible exact ih0 _ _ _)
      | (with_reducible exact ih1 _ _ _)
      | (with_reducible exact LeO.refl _)
      | (with_reducible exact LeO.none _)
      | (with_reducible refine LeO.ite ?_ ?_)
      | (with_reducible refine LeO.bind ?_ (fun _ => ?_))
      | exact ih0 _ _ _
      | exact ih1 _ _ _
      | exact LeO.none _
      | refine LeO.ite ?_ ?_
      | refine LeO.bind ?_ (fun _ => ?_)
theorem r05_MonthDays.mono : ∀ a0 a1 k, LeO (r05_MonthDays.f k a0 a1) (r05_MonthDays.f (k + 1) a0 a1) := by
  intro a0 a1 k
  obtain ⟨ih0, ih1⟩ := r05_MonthDays.mono_l k
  unfold r05_MonthDays.f
  repeat' first
      | (with_reducible exact ih0 _ _ _)
      | (with_reducible exact ih1 _ _ _)
      | (with_reducible exact LeO.refl _)
      | (with_reducible exact LeO.none _)
      | (with_reducible refine LeO.ite ?_ ?_)
      | (with_reducible refine LeO.bind ?_ (fun _ => ?_))
      | exact ih0 _ _ _
      | exact ih1 _ _ _
      | exact LeO.none _
      | refine LeO.ite ?_ ?_
      | refine LeO.bind ?_ (fun _ => ?_)

/-! ### r05_Of: function 44 -/
mutual
def r05_Of.j0 : Nat → Int → Bool → Option (Int × Int × Int × Int × Int × Int × Int × Int)
  | 0, _, _ => none
  | k + 1, x0, x12 => if x12 = true then (some (0, 0, 0, 0, 0, 0, 0, 3)) else ((r05_dayOf.f k x0).bind fun t228 => (r05_Of.l0 k t228 1900 1 0 (wrap64 (Int.tdiv (wrap64 (x0 - (wrap64 (t228 * 86400)))) 3600)) (Int.tmod (wrap64 (Int.tdiv (wrap64 (x0 - (wrap64 (t228 * 86400)))) 60)) 60) (Int.tmod (wrap64 (x0 - (wrap64 (t228 * 86400)))) 60) 0))
def r05_Of.l0 : Nat → Int → Int → Int → Int → Int → Int → Int → Int → Option (Int × Int × Int × Int × Int × Int × Int × Int)
  | 0, _, _, _, _, _, _, _, _ => none
  | k + 1, x4, x230000, x230001, x230002, x230003, x230004, x230005, x230006 => if x4 < 0 then ((r05_yearDays.f (wrap64 (x230000 - 1))).bind fun t230 => (r05_Of.l0 k (wrap64 (x4 + t230)) (wrap64 (x230000 - 1)) x230001 x230002 x230003 x230004 x230005 x230006)) else (r05_Of.l1 k x4 x230000 x230001 x230002 x230003 x230004 x230005 x230006)
def r05_Of.l1 : Nat → Int → Int → Int → Int → Int → Int → Int → Int → Option (Int × Int × Int × Int × Int × Int × Int × Int)
  | 0, _, _, _, _, _, _, _, _ => none
  | k + 1, x4, x230000, x230001, x230002, x230003, x230004, x230005, x230006 => (r05_yearDays.f x230000).bind fun t231 => (if x4 ≥ t231 then ((r05_yearDays.f x230000).bind fun t232 => (r05_Of.l1 k (wrap64 (x4 - t232)) (wrap64 (x230000 + 1)) x230001 x230002 x230003 x230004 x230005 x230006)) else (r05_Of.l2 k x4 x230000 x230001 x230002 x230003 x230004 x230005 x230006))
def r05_Of.l2 : Nat → Int → Int → Int → Int → Int → Int → Int → Int → Option (Int × Int × Int × Int × Int × Int × Int × Int)
  | 0, _, _, _, _, _, _, _, _ => none
  | k + 1, x4, x230000, x230001, x230002, x230003, x230004, x230005, x230006 => (r05_MonthDays.f k x230000 x230001).bind fun t233 => (if x4 ≥ t233 then ((r05_MonthDays.f k x230000 x230001).bind fun t234 => (r05_Of.l2 k (wrap64 (x4 - t234)) x230000 (wrap64 (x230001 + 1)) x230002 x230003 x230004 x230005 x230006)) else (some (x230000, x230001, wrap64 (x4 + 1), x230003, x230004, x230005, x230006, 0)))
end
def r05_Of.f (k : Nat) (a0 : Int) : Option (Int × Int × Int × Int × Int × Int × Int × Int) := if a0 < (-8000000000) then (r05_Of.j0 k a0 true) else (r05_Of.j0 k a0 (decide (a0 > 8000000000)))
theorem r05_Of.mono_l : ∀ k, (∀ y0 y1, LeO (r05_Of.j0 k y0 y1) (r05_Of.j0 (k + 1) y0 y1)) ∧ (∀ y0 y1 y2 y3 y4 y5 y6 y7, LeO (r05_Of.l0 k y0 y1 y2 y3 y4 y5 y6 y7) (r05_Of.l0 (k + 1) y0 y1 y2 y3 y4 y5 y6 y7)) ∧ (∀ y0 y1 y2 y3 y4 y5 y6 y7, LeO (r05_Of.l1 k y0 y1 y2 y3 y4 y5 y6 y7) (r05_Of.l1 (k + 1) y0 y1 y2 y3 y4 y5 y6 y7)) ∧ (∀ y0 y1 y2 y3 y4 y5 y6 y7, LeO (r05_Of.l2 k y0 y1 y2 y3 y4 y5 y6 y7) (r05_Of.l2 (k + 1) y0 y1 y2 y3 y4 y5 y6 y7))
  | 0 => ⟨fun _ _ r h => by simp [r05_Of.j0] at h, fun _ _ _ _ _ _ _ _ r h => by simp [r05_Of.l0] at h, fun _ _ _ _ _ _ _ _ r h => by simp [r05_Of.l1] at h, fun _ _ _ _ _ _ _ _ r h => by simp [r05_Of.l2] at h⟩
  | k + 1 => by
    obtain ⟨ih0, ih1, ih2, ih3⟩ := r05_Of.mono_l k
    refine ⟨?_, ?_, ?_, ?_⟩
    · intro y0 y1
      unfold r05_Of.j0
      repeat' first
      | (with_reducible exact ih0 _ _)
      | (with_reducible exact ih1 _ _ _ _ _ _ _ _)
      | (with_reducible exact ih2 _ _ _ _ _ _ _ _)
      | (with_reducible exact ih3 _ _ _ _ _ _ _ _)
      | (with_reducible exact r05_MonthDays.mono _ _ _)
      | (with_reducible exact r05_dayOf.mono _ _)
      | (with_reducible exact LeO.refl _)
      | (with_reducible exact LeO.none _)
      | (with_reducible refine LeO.ite ?_ ?_)
      | (with_reducible refine LeO.bind ?_ (fun _ => ?_))
      | exact ih0 _ _
      | exact ih1 _ _ _ _ _ _ _ _
      | exact ih2 _ _ _ _ _ _ _ _
      | exact ih3 _ _ _ _ _ _ _ _
      | exact r05_MonthDays.mono _ _ _
      | exact r05_dayOf.mono _ _
      | exact LeO.none _
      | refine LeO.ite ?_ ?_
      | refine LeO.bind ?_ (fun _ => ?_)
    · intro y0 y1 y2 y3 y4 y5 y6 y7
      unfold r05_Of.l0
      repeat' first
      | (with_reducible exact ih0 _ _)
      | (with_reducible exact ih1 _ _ _ _ _ _ _ _)
      | (with_reducible exact ih2 _ _ _ _ _ _ _ _)
      | (with_reducible exact ih3 _ _ _ _ _ _ _ _)
      | (with_reducible exact r05_MonthDays.mono _ _ _)
      | (with_reducible exact r05_dayOf.mono _ _)
      | (with_reducible exact LeO.refl _)
      | (with_reducible exact LeO.none _)
      | (with_reducible refine LeO.ite ?_ ?_)
      | (with_reducible refine LeO.bind ?_ (fun _ => ?_))
      | exact ih0 _ _
      | exact ih1 _ _ _ _ _ _ _ _
      | exact ih2 _ _ _ _ _ _ _ _
      | exact ih3 _ _ _ _ _ _ _ _
      | exact r05_MonthDays.mono _ _ _
      | exact r05_dayOf.mono _ _
      | exact LeO.none _
      | refine LeO.ite ?_ ?_
      | refine LeO.bind ?_ (fun _ => ?_)
    · intro y0 y1 y2 y3 y4 y5 y6 y7
      unfold r05_Of.l1
      repeat' first
      | (with_reducible exact ih0 _ _)
      | (with_reducible exact ih1 _ _ _ _ _ _ _ _)
      | (with_reducible exact ih2 _ _ _ _ _ _ _ _)
      | (with_reducible exact ih3 _ _ _ _ _ _ _ _)
      | (with_reducible exact r05_MonthDays.mono _ _ _)
      | (with_reducible exact r05_dayOf.mono _ _)
      | (with_reducible exact LeO.refl _)
      | (with_reducible exact LeO.none _)
      | (with_reducible refine LeO.ite ?_ ?_)
      | (with_reducible refine LeO.bind ?_ (fun _ => ?_))
      | exact ih0 _ _
      | exact ih1 _ _ _ _ _ _ _ _
      | exact ih2 _ _ _ _ _ _ _ _
      | exact ih3 _ _ _ _ _ _ _ _
      | exact r05_MonthDays.mono _ _ _
      | exact r05_dayOf.mono _ _
      | exact LeO.none _
      | refine LeO.ite ?_ ?_
      | refine LeO.bind ?_ (fun _ => ?_)
    · intro y0 y1 y2 y3 y4 y5 y6 y7
      unfold r05_Of.l2
      repeat' first
      | (with_reducible exact ih0 _ _)
      | (with_reducible exact ih1 _ _ _ _ _ _ _ _)
      | (with_reducible exact ih2 _ _ _ _ _ _ _ _)
      | (with_reducible exact ih3 _ _ _ _ _ _ _ _)
      | (with_reducible exact r05_MonthDays.mono _ _ _)
      | (with_reducible exact r05_dayOf.mono _ _)
      | (with_reducible exact LeO.refl _)
      | (with_reducible exact LeO.none _)
      | (with_reducible refine LeO.ite ?_ ?_)
      | (with_reducible refine LeO.bind ?_ (fun _ => ?_))
      | exact ih0 _ _
      | exact ih1 _ _ _ _ _ _ _ _
      | exact ih2 _ _ _ _ _ _ _ _
      | exact ih3 _ _ _ _ _ _ _ _
      | exact r05_MonthDays.mono _ _ _
      | exact r05_dayOf.mono _ _
      | exact LeO.none _
      | refine LeO.ite ?_ ?_
      | refine LeO.bind ?_ (fun _ => ?_)
theorem r05_Of.mono : ∀ a0 k, LeO (r05_Of.f k a0) (r05_Of.f (k + 1) a0) := by
  intro a0 k
  obtain ⟨ih0, ih1, ih2, ih3⟩ := r05_Of.mono_l k
  unfold r05_Of.f
  repeat' first
      | (with_reducible exact ih0 _ _)
      | (with_reducible exact ih1 _ _ _ _ _ _ _ _)
      | (with_reducible exact ih2 _ _ _ _ _ _ _ _)
      | (with_reducible exact ih3 _ _ _ _ _ _ _ _)
      | (with_reducible exact r05_MonthDays.mono _ _ _)
      | (with_reducible exact r05_dayOf.mono _ _)
      | (with_reducible exact LeO.refl _)
      | (with_reducible exact LeO.none _)
      | (with_reducible refine LeO.ite ?_ ?_)
      | (with_reducible refine LeO.bind ?_ (fun _ => ?_))
      | exact ih0 _ _
      | exact ih1 _ _ _ _ _ _ _ _
      | exact ih2 _ _ _ _ _ _ _ _
      | exact ih3 _ _ _ _ _ _ _ _
      | exact r05_MonthDays.mono _ _ _
      | exact r05_dayOf.mono _ _
      | exact LeO.none _
      | refine LeO.ite ?_ ?_
      | refine LeO.bind ?_ (fun _ => ?_)

/-! ### r6_begins: function 28 -/
def r6_begins.f (k : Nat) (a0 : Int) : Option (Bool) := (r05_Of.f k a0).bind fun bt235 => (if bt235.2.2.2.2.2.2.2 = 0 then (if bt235.2.2.1 = 1 then (if bt235.2.2.2.1 = 0 then (if bt235.2.2.2.2.1 = 0 then (some (bt235.2.2.2.2.2.1 == 0)) else (some false)) else (some false)) else (some false)) else (some false))
theorem r6_begins.mono : ∀ a0 k, LeO (r6_begins.f k a0) (r6_begins.f (k + 1) a0) := by
  intro a0 k
  unfold r6_begins.f
  repeat' first
      | (with_reducible exact r05_Of.mono _ _)
      | (with_reducible exact LeO.refl _)
      | (with_reducible exact LeO.none _)
      | (with_reducible refine LeO.ite ?_ ?_)
      | (with_reducible refine LeO.bind ?_ (fun _ => ?_))
      | exact r05_Of.mono _ _
      | exact LeO.none _
      | refine LeO.ite ?_ ?_
      | refine LeO.bind ?_ (fun _ => ?_)

/-! ### r6_old: function 29 -/
def r6_old.f (a0_0 : Int) (a0_1 : Int) (l0_2 : List (S44)) (a1 : Int) : Option (Int) := if a1 = 0 then (some a0_0) else (if 0 ≤ (wrap64 (a1 - 1)) then (if (wrap64 (a1 - 1)) < (l0_2.length : Int) then (some ((rd_T44 l0_2 (wrap64 (a1 - 1))).f1)) else (none)) else (none))

/-! ### r6_Check: function 12 -/
mutual
def r6_Check.j0 : Nat → Bool → Int → Int → List (S44) → Option (Int)
  | 0, _, _, _, _ => none
  | k + 1, x19, x247000, x247001, x247002 => if x19 = true then (some 3) else (r6_Check.l0 k 0 x247000 x247001 x247002)
def r6_Check.l0 : Nat → Int → Int → Int → List (S44) → Option (Int)
  | 0, _, _, _, _ => none
  | k + 1, x3, x247000, x247001, x247002 => if x3 < (x247002.length : Int) then (if 0 ≤ x3 then ((r6_in.f ((rd_T44 x247002 x3).f0) 8000000000).bind fun t250 => (if t250 = true then ((r6_in.f ((rd_T44 x247002 x3).f1) 1000).bind fun t252 => (if t252 = true then (r6_Check.l0 k (wrap64 (x3 + 1)) x247000 x247001 x247002) else (some 3))) else (some 3))) else (none)) else (r6_Check.l1 k 0 x247000 x247001 x247002)
def r6_Check.l1 : Nat → Int → Int → Int → List (S44) → Option (Int)
  | 0, _, _, _, _ => none
  | k + 1, x4, x247000, x247001, x247002 => if x4 < (x247002.length : Int) then (if 0 ≤ x4 then ((r6_begins.f k ((rd_T44 x247002 x4).f0)).bind fun t255 => (if t255 = true then (if x4 > 0 then (if 0 ≤ (wrap64 (x4 - 1)) then (if (wrap64 (x4 - 1)) < (x247002.length : Int) then (r6_Check.j3 k x4 (decide (((rd_T44 x247002 x4).f0) ≤ ((rd_T44 x247002 (wrap64 (x4 - 1))).f0))) x247000 x247001 x247002 ((rd_T44 x247002 x4).f0) ((rd_T44 x247002 x4).f1)) else (none)) else (none)) else (r6_Check.j3 k x4 false x247000 x247001 x247002 ((rd_T44 x247002 x4).f0) ((rd_T44 x247002 x4).f1))) else (some 7))) else (none)) else (some 0)
def r6_Check.j3 : Nat → Int → Bool → Int → Int → List (S44) → Int → Int → Option (Int)
  | 0, _, _, _, _, _, _, _ => none
  | k + 1, x4, x62, x247000, x247001, x247002, x255000, x255001 => if x62 = true then (some 12) else ((r6_old.f x247000 x247001 x247002 x4).bind fun t257 => (if x255001 = (wrap64 (t257 + 1)) then (r6_Check.l1 k (wrap64 (x4 + 1)) x247000 x247001 x247002) else ((r6_old.f x247000 x247001 x247002 x4).bind fun t258 => (if x255001 = (wrap64 (t258 - 1)) then (r6_Check.l1 k (wrap64 (x4 + 1)) x247000 x247001 x247002) else (some 3)))))
end
def r6_Check.f (k : Nat) (a0_0 : Int) (a0_1 : Int) (l0_2 : List (S44)) : Option (Int) := if (l0_2.length : Int) > 64 then (some 6) else ((r6_in.f a0_0 1000).bind fun t247 => (if t247 = true then ((r6_in.f a0_1 8000000000).bind fun t248 => (r6_Check.j0 k (!t248) a0_0 a0_1 l0_2)) else (r6_Check.j0 k true a0_0 a0_1 l0_2)))
theorem r6_Check.mono_l : ∀ k, (∀ y0 y1 y2 y3, LeO (r6_Check.j0 k y0 y1 y2 y3) (r6_Check.j0 (k + 1) y0 y1 y2 y3)) ∧ (∀ y0 y1 y2 y3, LeO (r6_Check.l0 k y0 y1 y2 y3) (r6_Check.l0 (k + 1) y0 y1 y2 y3)) ∧ (∀ y0 y1 y2 y3, LeO (r6_Check.l1 k y0 y1 y2 y3) (r6_Check.l1 (k + 1) y0 y1 y2 y3)) ∧ (∀ y0 y1 y2 y3 y4 y5 y6, LeO (r6_Check.j3 k y0 y1 y2 y3 y4 y5 y6) (r6_Check.j3 (k + 1) y0 y1 y2 y3 y4 y5 y6))
  | 0 => ⟨fun _ _ _ _ r h => by simp [r6_Check.j0] at h, fun _ _ _ _ r h => by simp [r6_Check.l0] at h, fun _ _ _ _ r h => by simp [r6_Check.l1] at h, fun _ _ _ _ _ _ _ r h => by simp [r6_Check.j3] at h⟩
  | k + 1 => by
    obtain ⟨ih0, ih1, ih2, ih3⟩ := r6_Check.mono_l k
    refine ⟨?_, ?_, ?_, ?_⟩
    · intro y0 y1 y2 y3
      unfold r6_Check.j0
      repeat' first
      | (with_reducible exact ih0 _ _ _ _)
      | (with_reducible exact ih1 _ _ _ _)
      | (with_reducible exact ih2 _ _ _ _)
      | (with_reducible exact ih3 _ _ _ _ _ _ _)
      | (with_reducible exact r6_begins.mono _ _)
      | (with_reducible exact LeO.refl _)
      | (with_reducible exact LeO.none _)
      | (with_reducible refine LeO.ite ?_ ?_)
      | (with_reducible refine LeO.bind ?_ (fun _ => ?_))
      | exact ih0 _ _ _ _
      | exact ih1 _ _ _ _
      | exact ih2 _ _ _ _
      | exact ih3 _ _ _ _ _ _ _
      | exact r6_begins.mono _ _
      | exact LeO.none _
      | refine LeO.ite ?_ ?_
      | refine LeO.bind ?_ (fun _ => ?_)
    · intro y0 y1 y2 y3
      unfold r6_Check.l0
      repeat' first
      | (with_reducible exact ih0 _ _ _ _)
      | (with_reducible exact ih1 _ _ _ _)
      | (with_reducible exact ih2 _ _ _ _)
      | (with_reducible exact ih3 _ _ _ _ _ _ _)
      | (with_reducible exact r6_begins.mono _ _)
      | (with_reducible exact LeO.refl _)
      | (with_reducible exact LeO.none _)
      | (with_reducible refine LeO.ite ?_ ?_)
      | (with_reducible refine LeO.bind ?_ (fun _ => ?_))
      | exact ih0 _ _ _ _
      | exact ih1 _ _ _ _
      | exact ih2 _ _ _ _
      | exact ih3 _ _ _ _ _ _ _
      | exact r6_begins.mono _ _
      | exact LeO.none _
      | refine LeO.ite ?_ ?_
      | refine LeO.bind ?_ (fun _ => ?_)
    · intro y0 y1 y2 y3
      unfold r6_Check.l1
      repeat' first
      | (with_reducible exact ih0 _ _ _ _)
      | (with_reducible exact ih1 _ _ _ _)
      | (with_reducible exact ih2 _ _ _ _)
      | (with_reducible exact ih3 _ _ _ _ _ _ _)
      | (with_reducible exact r6_begins.mono _ _)
      | (with_reducible exact LeO.refl _)
      | (with_reducible exact LeO.none _)
      | (with_reducible refine LeO.ite ?_ ?_)
      | (with_reducible refine LeO.bind ?_ (fun _ => ?_))
      | exact ih0 _ _ _ _
      | exact ih1 _ _ _ _
      | exact ih2 _ _ _ _
      | exact ih3 _ _ _ _ _ _ _
      | exact r6_begins.mono _ _
      | exact LeO.none _
      | refine LeO.ite ?_ ?_
      | refine LeO.bind ?_ (fun _ => ?_)
    · intro y0 y1 y2 y3 y4 y5 y6
      unfold r6_Check.j3
      repeat' first
      | (with_reducible exact ih0 _ _ _ _)
      | (with_reducible exact ih1 _ _ _ _)
      | (with_reducible exact ih2 _ _ _ _)
      | (with_reducible exact ih3 _ _ _ _ _ _ _)
      | (with_reducible exact r6_begins.mono _ _)
      | (with_reducible exact LeO.refl _)
      | (with_reducible exact LeO.none _)
      | (with_reducible refine LeO.ite ?_ ?_)
      | (with_reducible refine LeO.bind ?_ (fun _ => ?_))
      | exact ih0 _ _ _ _
      | exact ih1 _ _ _ _
      | exact ih2 _ _ _ _
      | exact ih3 _ _ _ _ _ _ _
      | exact r6_begins.mono _ _
      | exact LeO.none _
      | refine LeO.ite ?_ ?_
      | refine LeO.bind ?_ (fun _ => ?_)
theorem r6_Check.mono : ∀ a0 a1 a2 k, LeO (r6_Check.f k a0 a1 a2) (r6_Check.f (k + 1) a0 a1 a2) := by
  intro a0 a1 a2 k
  obtain ⟨ih0, ih1, ih2, ih3⟩ := r6_Check.mono_l k
  unfold r6_Check.f
  repeat' first
      | (with_reducible exact ih0 _ _ _ _)
      | (with_reducible exact ih1 _ _ _ _)
      | (with_reducible exact ih2 _ _ _ _)
      | (with_reducible exact ih3 _ _ _ _ _ _ _)
      | (with_reducible exact r6_begins.mono _ _)
      | (with_reducible exact LeO.refl _)
      | (with_reducible exact LeO.none _)
      | (with_reducible refine LeO.ite ?_ ?_)
      | (with_reducible refine LeO.bind ?_ (fun _ => ?_))
      | exact ih0 _ _ _ _
      | exact ih1 _ _ _ _
      | exact ih2 _ _ _ _
      | exact ih3 _ _ _ _ _ _ _
      | exact r6_begins.mono _ _
      | exact LeO.none _
      | refine LeO.ite ?_ ?_
      | refine LeO.bind ?_ (fun _ => ?_)

/-! ### r6_change: function 32 -/
def r6_change.l0 : Nat → Int → Int → Int → Int → List (S44) → Option (Int)
  | 0, _, _, _, _, _ => none
  | k + 1, x1, x5, x266000, x266001, x266002 => if x5 < (x266002.length : Int) then (if 0 ≤ x5 then (if ((rd_T44 x266002 x5).f0) = x1 then ((r6_old.f x266000 x266001 x266002 x5).bind fun t268 => (some (wrap64 (((rd_T44 x266002 x5).f1) - t268)))) else (r6_change.l0 k x1 (wrap64 (x5 + 1)) x266000 x266001 x266002)) else (none)) else (some 0)
def r6_change.f (k : Nat) (a0_0 : Int) (a0_1 : Int) (l0_2 : List (S44)) (a1 : Int) : Option (Int) := r6_change.l0 k a1 0 a0_0 a0_1 l0_2
theorem r6_change.mono_l : ∀ k, (∀ y0 y1 y2 y3 y4, LeO (r6_change.l0 k y0 y1 y2 y3 y4) (r6_change.l0 (k + 1) y0 y1 y2 y3 y4))
  | 0 => fun _ _ _ _ _ r h => by simp [r6_change.l0] at h
  | k + 1 => by
    have ih0 := r6_change.mono_l k
    · intro y0 y1 y2 y3 y4
      unfold r6_change.l0
      repeat' first
      | (with_reducible exact ih0 _ _ _ _ _)
      | (with_reducible exact LeO.refl _)
      | (with_reducible exact LeO.none _)
      | (with_reducible refine LeO.ite ?_ ?_)
      | (with_reducible refine LeO.bind ?_ (fun _ => ?_))
      | exact ih0 _ _ _ _ _
      | exact LeO.none _
      | refine LeO.ite ?_ ?_
      | refine LeO.bind ?_ (fun _ => ?_)
theorem r6_change.mono : ∀ a0 a1 a2 a3 k, LeO (r6_change.f k a0 a1 a2 a3) (r6_change.f (k + 1) a0 a1 a2 a3) := by
  intro a0 a1 a2 a3 k
  have ih0 := r6_change.mono_l k
  unfold r6_change.f
  repeat' first
      | (with_reducible exact ih0 _ _ _ _ _)
      | (with_reducible exact LeO.refl _)
      | (with_reducible exact LeO.none _)
      | (with_reducible refine LeO.ite ?_ ?_)
      | (with_reducible refine LeO.bind ?_ (fun _ => ?_))
      | exact ih0 _ _ _ _ _
      | exact LeO.none _
      | refine LeO.ite ?_ ?_
      | refine LeO.bind ?_ (fun _ => ?_)

/-! ### r6_offset: function 33 -/
def r6_offset.l0 : Nat → Int → Int → Int → Int → Int → List (S44) → Option (Int)
  | 0, _, _, _, _, _, _ => none
  | k + 1, x1, x5, x6, x270000, x270001, x270002 => if x6 < (x270002.length : Int) then (if 0 ≤ x6 then (if ((rd_T44 x270002 x6).f0) ≤ x1 then (r6_offset.l0 k x1 ((rd_T44 x270002 x6).f1) (wrap64 (x6 + 1)) x270000 x270001 x270002) else (r6_offset.l0 k x1 x5 (wrap64 (x6 + 1)) x270000 x270001 x270002)) else (none)) else (some x5)
def r6_offset.f (k : Nat) (a0_0 : Int) (a0_1 : Int) (l0_2 : List (S44)) (a1 : Int) : Option (Int) := r6_offset.l0 k a1 a0_0 0 a0_0 a0_1 l0_2
theorem r6_offset.mono_l : ∀ k, (∀ y0 y1 y2 y3 y4 y5, LeO (r6_offset.l0 k y0 y1 y2 y3 y4 y5) (r6_offset.l0 (k + 1) y0 y1 y2 y3 y4 y5))
  | 0 => fun _ _ _ _ _ _ r h => by simp [r6_offset.l0] at h
  | k + 1 => by
    have ih0 := r6_offset.mono_l k
    · intro y0 y1 y2 y3 y4 y5
      unfold r6_offset.l0
      repeat' first
      | (with_reducible exact ih0 _ _ _ _ _ _)
      | (with_reducible exact LeO.refl _)
      | (with_reducible exact LeO.none _)
      | (with_reducible refine LeO.ite ?_ ?_)
      | (with_reducible refine LeO.bind ?_ (fun _ => ?_))
      | exact ih0 _ _ _ _ _ _
      | exact LeO.none _
      | refine LeO.ite ?_ ?_
      | refine LeO.bind ?_ (fun _ => ?_)
theorem r6_offset.mono : ∀ a0 a1 a2 a3 k, LeO (r6_offset.f k a0 a1 a2 a3) (r6_offset.f (k + 1) a0 a1 a2 a3) := by
  intro a0 a1 a2 a3 k
  have ih0 := r6_offset.mono_l k
  unfold r6_offset.f
  repeat' first
      | (with_reducible exact ih0 _ _ _ _ _ _)
      | (with_reducible exact LeO.refl _)
      | (with_reducible exact LeO.none _)
      | (with_reducible refine LeO.ite ?_ ?_)
      | (with_reducible refine LeO.bind ?_ (fun _ => ?_))
      | exact ih0 _ _ _ _ _ _
      | exact LeO.none _
      | refine LeO.ite ?_ ?_
      | refine LeO.bind ?_ (fun _ => ?_)

/-! ### r6_TAI: function 14 -/
def r6_TAI.j0 : Nat → Int → Bool → Bool → Int → Int → List (S44) → Option (Int × Int)
  | 0, _, _, _, _, _, _ => none
  | k + 1, x1, x2, x34, x273000, x273001, x273002 => if x34 = true then (some (0, 11)) else (if x2 = true then ((r6_offset.f k x273000 x273001 x273002 x1).bind fun t276 => (some (wrap64 ((wrap64 (x1 + t276)) + 1), 0))) else ((r6_offset.f k x273000 x273001 x273002 x1).bind fun t277 => (some (wrap64 (x1 + t277), 0))))
def r6_TAI.f (k : Nat) (a0_0 : Int) (a0_1 : Int) (l0_2 : List (S44)) (a1 : Int) (a2 : Bool) : Option (Int × Int) := (r6_Check.f k a0_0 a0_1 l0_2).bind fun t273 => (if t273 = 0 then ((r6_in.f a1 8000000000).bind fun t274 => (if t274 = true then ((r6_change.f k a0_0 a0_1 l0_2 (wrap64 (a1 + 1))).bind fun t275 => (if a2 = true then (if t275 = 1 then (r6_TAI.j0 k a1 a2 false a0_0 a0_1 l0_2) else (r6_TAI.j0 k a1 a2 true a0_0 a0_1 l0_2)) else (r6_TAI.j0 k a1 a2 (t275 == (-1)) a0_0 a0_1 l0_2))) else (some (0, 3)))) else (some (0, t273)))
theorem r6_TAI.mono_l : ∀ k, (∀ y0 y1 y2 y3 y4 y5, LeO (r6_TAI.j0 k y0 y1 y2 y3 y4 y5) (r6_TAI.j0 (k + 1) y0 y1 y2 y3 y4 y5))
  | 0 => fun _ _ _ _ _ _ r h => by simp [r6_TAI.j0] at h
  | k + 1 => by
    have ih0 := r6_TAI.mono_l k
    · intro y0 y1 y2 y3 y4 y5
      unfold r6_TAI.j0
      repeat' first
      | (with_reducible exact ih0 _ _ _ _ _ _)
      | (with_reducible exact r6_Check.mono _ _ _ _)
      | (with_reducible exact r6_change.mono _ _ _ _ _)
      | (with_reducible exact r6_offset.mono _ _ _ _ _)
      | (with_reducible exact LeO.refl _)
      | (with_reducible exact LeO.none _)
      | (with_reducible refine LeO.ite ?_ ?_)
      | (with_reducible refine LeO.bind ?_ (fun _ => ?_))
      | exact ih0 _ _ _ _ _ _
      | exact r6_Check.mono _ _ _ _
      | exact r6_change.mono _ _ _ _ _
      | exact r6_offset.mono _ _ _ _ _
      | exact LeO.none _
      | refine LeO.ite ?_ ?_
      | refine LeO.bind ?_ (fun _ => ?_)
theorem r6_TAI.mono : ∀ a0 a1 a2 a3 a4 k, LeO (r6_TAI.f k a0 a1 a2 a3 a4) (r6_TAI.f (k + 1) a0 a1 a2 a3 a4) := by
  intro a0 a1 a2 a3 a4 k
  have ih0 := r6_TAI.mono_l k
  unfold r6_TAI.f
  repeat' first
      | (with_reducible exact ih0 _ _ _ _ _ _)
      | (with_reducible exact r6_Check.mono _ _ _ _)
      | (with_reducible exact r6_change.mono _ _ _ _ _)
      | (with_reducible exact r6_offset.mono _ _ _ _ _)
      | (with_reducible exact LeO.refl _)
      | (with_reducible exact LeO.none _)
      | (with_reducible refine LeO.ite ?_ ?_)
      | (with_reducible refine LeO.bind ?_ (fun _ => ?_))
      | exact ih0 _ _ _ _ _ _
      | exact r6_Check.mono _ _ _ _
      | exact r6_change.mono _ _ _ _ _
      | exact r6_offset.mono _ _ _ _ _
      | exact LeO.none _
      | refine LeO.ite ?_ ?_
      | refine LeO.bind ?_ (fun _ => ?_)

/-! ### r6_UTC: function 16 -/
mutual
def r6_UTC.l0 : Nat → Int → Int → Int → Int → List (S44) → Option (Int × Bool × Int)
  | 0, _, _, _, _, _ => none
  | k + 1, x1, x8, x279000, x279001, x279002 => if x8 < (x279002.length : Int) then (if x8 ≥ 0 then (if 0 ≤ x8 then (r6_UTC.j1 k x1 x8 (wrap64 (x1 - ((rd_T44 x279002 x8).f1))) x279000 x279001 x279002) else (none)) else (r6_UTC.j1 k x1 x8 (wrap64 (x1 - x279000)) x279000 x279001 x279002)) else (some (0, false, 3))
def r6_UTC.j1 : Nat → Int → Int → Int → Int → Int → List (S44) → Option (Int × Bool × Int)
  | 0, _, _, _, _, _, _ => none
  | k + 1, x1, x8, x9, x279000, x279001, x279002 => (r6_TAI.f k x279000 x279001 x279002 x9 false).bind fun bt282 => (if bt282.2 = 0 then (r6_UTC.j2 k x1 x8 x9 (bt282.1 == x1) x279000 x279001 x279002) else (r6_UTC.j2 k x1 x8 x9 false x279000 x279001 x279002))
def r6_UTC.j2 : Nat → Int → Int → Int → Bool → Int → Int → List (S44) → Option (Int × Bool × Int)
  | 0, _, _, _, _, _, _, _ => none
  | k + 1, x1, x8, x9, x55, x279000, x279001, x279002 => if x55 = true then (some (x9, false, 0)) else ((r6_TAI.f k x279000 x279001 x279002 (wrap64 (x9 - 1)) true).bind fun bt284 => (if bt284.2 = 0 then (if bt284.1 = x1 then (some (wrap64 (x9 - 1), true, 0)) else (r6_UTC.l0 k x1 (wrap64 (x8 + 1)) x279000 x279001 x279002)) else (r6_UTC.l0 k x1 (wrap64 (x8 + 1)) x279000 x279001 x279002)))
end
def r6_UTC.f (k : Nat) (a0_0 : Int) (a0_1 : Int) (l0_2 : List (S44)) (a1 : Int) : Option (Int × Bool × Int) := (r6_Check.f k a0_0 a0_1 l0_2).bind fun t279 => (if t279 = 0 then ((r6_in.f a1 8000002000).bind fun t280 => (if t280 = true then (r6_UTC.l0 k a1 (-1) a0_0 a0_1 l0_2) else (some (0, false, 3)))) else (some (0, false, t279)))
theorem r6_UTC.mono_l : ∀ k, (∀ y0 y1 y2 y3 y4, LeO (r6_UTC.l0 k y0 y1 y2 y3 y4) (r6_UTC.l0 (k + 1) y0 y1 y2 y3 y4)) ∧ (∀ y0 y1 y2 y3 y4 y5, LeO (r6_UTC.j1 k y0 y1 y2 y3 y4 y5) (r6_UTC.j1 (k + 1) y0 y1 y2 y3 y4 y5)) ∧ (∀ y0 y1 y2 y3 y4 y5 y6, LeO (r6_UTC.j2 k y0 y1 y2 y3 y4 y5 y6) (r6_UTC.j2 (k + 1) y0 y1 y2 y3 y4 y5 y6))
  | 0 => ⟨fun _ _ _ _ _ r h => by simp [r6_UTC.l0] at h, fun _ _ _ _ _ _ r h => by simp [r6_UTC.j1] at h, fun _ _ _ _ _ _ _ r h => by simp [r6_UTC.j2] at h⟩
  | k + 1 => by
    obtain ⟨ih0, ih1, ih2⟩ := r6_UTC.mono_l k
    refine ⟨?_, ?_, ?_⟩
    · intro y0 y1 y2 y3 y4
      unfold r6_UTC.l0
      repeat' first
      | (with_reducible exact ih0 _ _ _ _ _)
      | (with_reducible exact ih1 _ _ _ _ _ _)
      | (with_reducible exact ih2 _ _ _ _ _ _ _)
      | (with_reducible exact r6_Check.mono _ _ _ _)
      | (with_reducible exact r6_TAI.mono _ _ _ _ _ _)
      | (with_reducible exact LeO.refl _)
      | (with_reducible exact LeO.none _)
      | (with_reducible refine LeO.ite ?_ ?_)
      | (with_reducible refine LeO.bind ?_ (fun _ => ?_))
      | exact ih0 _ _ _ _ _
      | exact ih1 _ _ _ _ _ _
      | exact ih2 _ _ _ _ _ _ _
      | exact r6_Check.mono _ _ _ _
      | exact r6_TAI.mono _ _ _ _ _ _
      | exact LeO.none _
      | refine LeO.ite ?_ ?_
      | refine LeO.bind ?_ (fun _ => ?_)
    · intro y0 y1 y2 y3 y4 y5
      unfold r6_UTC.j1
      repeat' first
      | (with_reducible exact ih0 _ _ _ _ _)
      | (with_reducible exact ih1 _ _ _ _ _ _)
      | (with_reducible exact ih2 _ _ _ _ _ _ _)
      | (with_reducible exact r6_Check.mono _ _ _ _)
      | (with_reducible exact r6_TAI.mono _ _ _ _ _ _)
      | (with_reducible exact LeO.refl _)
      | (with_reducible exact LeO.none _)
      | (with_reducible refine LeO.ite ?_ ?_)
      | (with_reducible refine LeO.bind ?_ (fun _ => ?_))
      | exact ih0 _ _ _ _ _
      | exact ih1 _ _ _ _ _ _
      | exact ih2 _ _ _ _ _ _ _
      | exact r6_Check.mono _ _ _ _
      | exact r6_TAI.mono _ _ _ _ _ _
      | exact LeO.none _
      | refine LeO.ite ?_ ?_
      | refine LeO.bind ?_ (fun _ => ?_)
    · intro y0 y1 y2 y3 y4 y5 y6
      unfold r6_UTC.j2
      repeat' first
      | (with_reducible exact ih0 _ _ _ _ _)
      | (with_reducible exact ih1 _ _ _ _ _ _)
      | (with_reducible exact ih2 _ _ _ _ _ _ _)
      | (with_reducible exact r6_Check.mono _ _ _ _)
      | (with_reducible exact r6_TAI.mono _ _ _ _ _ _)
      | (with_reducible exact LeO.refl _)
      | (with_reducible exact LeO.none _)
      | (with_reducible refine LeO.ite ?_ ?_)
      | (with_reducible refine LeO.bind ?_ (fun _ => ?_))
      | exact ih0 _ _ _ _ _
      | exact ih1 _ _ _ _ _ _
      | exact ih2 _ _ _ _ _ _ _
      | exact r6_Check.mono _ _ _ _
      | exact r6_TAI.mono _ _ _ _ _ _
      | exact LeO.none _
      | refine LeO.ite ?_ ?_
      | refine LeO.bind ?_ (fun _ => ?_)
theorem r6_UTC.mono : ∀ a0 a1 a2 a3 k, LeO (r6_UTC.f k a0 a1 a2 a3) (r6_UTC.f (k + 1) a0 a1 a2 a3) := by
  intro a0 a1 a2 a3 k
  obtain ⟨ih0, ih1, ih2⟩ := r6_UTC.mono_l k
  unfold r6_UTC.f
  repeat' first
      | (with_reducible exact ih0 _ _ _ _ _)
      | (with_reducible exact ih1 _ _ _ _ _ _)
      | (with_reducible exact ih2 _ _ _ _ _ _ _)
      | (with_reducible exact r6_Check.mono _ _ _ _)
      | (with_reducible exact r6_TAI.mono _ _ _ _ _ _)
      | (with_reducible exact LeO.refl _)
      | (with_reducible exact LeO.none _)
      | (with_reducible refine LeO.ite ?_ ?_)
      | (with_reducible refine LeO.bind ?_ (fun _ => ?_))
      | exact ih0 _ _ _ _ _
      | exact ih1 _ _ _ _ _ _
      | exact ih2 _ _ _ _ _ _ _
      | exact r6_Check.mono _ _ _ _
      | exact r6_TAI.mono _ _ _ _ _ _
      | exact LeO.none _
      | refine LeO.ite ?_ ?_
      | refine LeO.bind ?_ (fun _ => ?_)

/-! ### w6_LeapLabels: function 4 -/
def w6_LeapLabels.f (k : Nat) (a0_0 : Int) (a0_1 : Int) (l0_2 : List (S44)) (a1_0 : Int) (a1_1 : Bool) (a1_2 : Int) : Option (Bool) := (w6_small.f a0_0 a0_1 l0_2).bind fun t288 => (if t288 = true then ((leap_TAI.f k a0_0 a0_1 l0_2 a1_0 a1_1).bind fun bt290 => ((r6_TAI.f k a0_0 a0_1 l0_2 a1_0 a1_1).bind fun bt292 => ((leap_UTC.f k a0_0 a0_1 l0_2 a1_2).bind fun bt294 => ((r6_UTC.f k a0_0 a0_1 l0_2 a1_2).bind fun bt297 => (if bt290.1 = bt292.1 then (if bt290.2 = bt292.2 then (if bt294.1 = bt297.1 then (if (bt294.2.1 == bt297.2.1) = true then (if bt294.2.2 = bt297.2.2 then ((w6_awake.f k).bind fun t300 => (some t300)) else (some false)) else (some false)) else (some false)) else (some false)) else (some false)))))) else ((w6_awake.f k).bind fun t289 => (some t289)))
theorem w6_LeapLabels.mono : ∀ a0 a1 a2 a3 a4 a5 k, LeO (w6_LeapLabels.f k a0 a1 a2 a3 a4 a5) (w6_LeapLabels.f (k + 1) a0 a1 a2 a3 a4 a5) := by
  intro a0 a1 a2 a3 a4 a5 k
  unfold w6_LeapLabels.f
  repeat' first
      | (with_reducible exact leap_TAI.mono _ _ _ _ _ _)
      | (with_reducible exact leap_UTC.mono _ _ _ _ _)
      | (with_reducible exact w6_awake.mono _)
      | (with_reducible exact r6_TAI.mono _ _ _ _ _ _)
      | (with_reducible exact r6_UTC.mono _ _ _ _ _)
      | (with_reducible exact LeO.refl _)
      | (with_reducible exact LeO.none _)
      | (with_reducible refine LeO.ite ?_ ?_)
      | (with_reducible refine LeO.bind ?_ (fun _ => ?_))
      | exact leap_TAI.mono _ _ _ _ _ _
      | exact leap_UTC.mono _ _ _ _ _
      | exact w6_awake.mono _
      | exact r6_TAI.mono _ _ _ _ _ _
      | exact r6_UTC.mono _ _ _ _ _
      | exact LeO.none _
      | refine LeO.ite ?_ ?_
      | refine LeO.bind ?_ (fun _ => ?_)

end Go.Proofs.YtipbkcilpnlgnaaDoor.M
