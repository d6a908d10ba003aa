-- printed
import Derived.Test.YtipbkcilpnlgnaaDoorM0
import Derived.Test.YtipbkcilpnlgnaaDoorExtD0
namespace Go.Proofs.YtipbkcilpnlgnaaDoor.M
open Go.RowKit Go.Proofs.YtipbkcilpnlgnaaDoorG Go.Proofs.YtipbkcilpnlgnaaDoorW.PA Go.Proofs.YtipbkcilpnlgnaaDoorW.PB Go.Proofs.YtipbkcilpnlgnaaDoorW.PC
attribute [local go_sem] max2_int min2_int max_two min_two max_three min_three max_four min_four   -- for this text's walks alone
set_option linter.unusedVariables false
set_option linter.unusedSimpArgs false

/-! ### leap_blank: function 35 -/
def leap_blank.f (a0 : Int) : Option (Bool) := if a0 = 32 then (some true) else (some (a0 == 9))

/-! ### fixed_divides: function 65 -/
def fixed_divides.f (a0 : Int) (a1 : Int) : Option (Bool) := if a1 = 0 then (some false) else (if a1 = (-1) then (some (a0 != (-9223372036854775808))) else (some true))

/-! ### fixed_Floor: function 51 -/
def fixed_Floor.f (a0 : Int) (a1 : Int) : Option (Int × Bool) := (fixed_divides.f a0 a1).bind fun t101 => (if t101 = true then (if a1 = 0 then (none) else (if (Int.tmod a0 a1) = 0 then (some (wrap64 (Int.tdiv a0 a1), true)) else (if ((decide (a0 < 0)) != (decide (a1 < 0))) = true then (some (wrap64 ((wrap64 (Int.tdiv a0 a1)) - 1), true)) else (some (wrap64 (Int.tdiv a0 a1), true))))) else (some (0, false)))

/-! ### civil_dayOf: function 42 -/
def civil_dayOf.f (a0 : Int) : Option (Int) := (fixed_Floor.f a0 86400).bind fun bt102 => (some bt102.1)

/-! ### w6_small: function 9 -/
def w6_small.f (a0_0 : Int) (a0_1 : Int) (l0_2 : List (S44)) : Option (Bool) := some (decide ((l0_2.length : Int) ≤ 70))

/-! ### leap_inside: function 24 -/
def leap_inside.f (a0 : Int) : Option (Bool) := if a0 ≥ (-8000000000) then (some (decide (a0 ≤ 8000000000))) else (some false)

/-! ### leap_month: function 25 -/
def leap_month.f (a0 : Int) (a1 : Int) : Option (Int × Bool) := (civil_Of.f a0).bind fun bt105 => (if bt105.2.2.2.2.2.2.2 = 0 then (if (wrap64 (bt105.2.1 + a1)) > 12 then ((civil_Seconds.f (wrap64 (bt105.1 + 1)) 1 1 0 0 0 0).bind fun bt114 => (some (bt114.1, (bt114.2 == 0)))) else ((civil_Seconds.f bt105.1 (wrap64 (bt105.2.1 + a1)) 1 0 0 0 0).bind fun bt116 => (some (bt116.1, (bt116.2 == 0))))) else (some (0, false)))

/-! ### leap_old: function 26 -/
def leap_old.f (a0_0 : Int) (a0_1 : Int) (l0_2 : List (S44)) (a1 : Int) : Option (Int) := if a1 = 0 then (some a0_0) else (if 0 ≤ (wrap64 (a1 - 1)) then (if (wrap64 (a1 - 1)) < (l0_2.length : Int) then (some ((rd_T44 l0_2 (wrap64 (a1 - 1))).f1)) else (none)) else (none))

/-! ### leap_Check: function 11 -/
mutual
def leap_Check.j0 : Nat → Bool → Int → Int → List (S44) → Option (Int)
  | 0, _, _, _, _ => none
  | k + 1, x3, x121000, x121001, x121002 => leap_Check.l0 k x3 x121002 (x121002.length : Int) 0 x121000 x121001 x121002
def leap_Check.l0 : Nat → Bool → List (S44) → Int → Int → Int → Int → List (S44) → Option (Int)
  | 0, _, _, _, _, _, _, _ => none
  | k + 1, x3, x29, x30, x31, x121000, x121001, x121002 => if x31 < x30 then (if 0 ≤ x31 then (if x31 < (x29.length : Int) then (if x3 = true then ((leap_inside.f ((rd_T44 x29 x31).f0)).bind fun t124 => (if t124 = true then (if ((rd_T44 x29 x31).f1) ≥ (-1000) then (leap_Check.l0 k (decide (((rd_T44 x29 x31).f1) ≤ 1000)) x29 x30 (wrap64 (x31 + 1)) x121000 x121001 x121002) else (leap_Check.l0 k false x29 x30 (wrap64 (x31 + 1)) x121000 x121001 x121002)) else (leap_Check.l0 k false x29 x30 (wrap64 (x31 + 1)) x121000 x121001 x121002))) else (leap_Check.l0 k false x29 x30 (wrap64 (x31 + 1)) x121000 x121001 x121002)) else (none)) else (none)) else (if x3 = true then (leap_Check.l1 k x121002 (x121002.length : Int) 0 x121000 x121001 x121002) else (some 3))
def leap_Check.l1 : Nat → List (S44) → Int → Int → Int → Int → List (S44) → Option (Int)
  | 0, _, _, _, _, _, _ => none
  | k + 1, x55, x56, x57, x121000, x121001, x121002 => if x57 < x56 then (if 0 ≤ x57 then (if x57 < (x55.length : Int) then ((leap_month.f ((rd_T44 x55 x57).f0) 0).bind fun bt127 => (if bt127.2 = true then (leap_Check.j3 k x57 x55 x56 x57 (bt127.1 != ((rd_T44 x55 x57).f0)) x121000 x121001 x121002 ((rd_T44 x55 x57).f0) ((rd_T44 x55 x57).f1)) else (leap_Check.j3 k x57 x55 x56 x57 true x121000 x121001 x121002 ((rd_T44 x55 x57).f0) ((rd_T44 x55 x57).f1)))) else (none)) else (none)) else (some 0)
def leap_Check.j3 : Nat → Int → List (S44) → Int → Int → Bool → Int → Int → List (S44) → Int → Int → Option (Int)
  | 0, _, _, _, _, _, _, _, _, _, _ => none
  | k + 1, x6, x55, x56, x57, x75, x121000, x121001, x121002, x127000, x127001 => if x75 = true then (some 7) else (if x6 > 0 then (if 0 ≤ (wrap64 (x6 - 1)) then (if (wrap64 (x6 - 1)) < (x121002.length : Int) then (leap_Check.j4 k x6 x55 x56 x57 (decide (x127000 ≤ ((rd_T44 x121002 (wrap64 (x6 - 1))).f0))) x121000 x121001 x121002 x127000 x127001) else (none)) else (none)) else (leap_Check.j4 k x6 x55 x56 x57 false x121000 x121001 x121002 x127000 x127001))
def leap_Check.j4 : Nat → Int → List (S44) → Int → Int → Bool → Int → Int → List (S44) → Int → Int → Option (Int)
  | 0, _, _, _, _, _, _, _, _, _, _ => none
  | k + 1, x6, x55, x56, x57, x89, x121000, x121001, x121002, x127000, x127001 => if x89 = true then (some 12) else ((leap_old.f x121000 x121001 x121002 x6).bind fun t130 => (if (wrap64 (x127001 - t130)) = 1 then (leap_Check.l1 k x55 x56 (wrap64 (x57 + 1)) x121000 x121001 x121002) else (if (wrap64 (x127001 - t130)) = (-1) then (leap_Check.l1 k x55 x56 (wrap64 (x57 + 1)) x121000 x121001 x121002) else (some 3))))
end
def leap_Check.f (k : Nat) (a0_0 : Int) (a0_1 : Int) (l0_2 : List (S44)) : Option (Int) := if (l0_2.length : Int) > 64 then (some 6) else (if a0_0 ≥ (-1000) then (if a0_0 ≤ 1000 then ((leap_inside.f a0_1).bind fun t121 => (leap_Check.j0 k t121 a0_0 a0_1 l0_2)) else (leap_Check.j0 k false a0_0 a0_1 l0_2)) else (leap_Check.j0 k false a0_0 a0_1 l0_2))
theorem leap_Check.mono_l : ∀ k, (∀ y0 y1 y2 y3, LeO (leap_Check.j0 k y0 y1 y2 y3) (leap_Check.j0 (k + 1) y0 y1 y2 y3)) ∧ (∀ y0 y1 y2 y3 y4 y5 y6, LeO (leap_Check.l0 k y0 y1 y2 y3 y4 y5 y6) (leap_Check.l0 (k + 1) y0 y1 y2 y3 y4 y5 y6)) ∧ (∀ y0 y1 y2 y3 y4 y5, LeO (leap_Check.l1 k y0 y1 y2 y3 y4 y5) (leap_Check.l1 (k + 1) y0 y1 y2 y3 y4 y5)) ∧ (∀ y0 y1 y2 y3 y4 y5 y6 y7 y8 y9, LeO (leap_Check.j3 k y0 y1 y2 y3 y4 y5 y6 y7 y8 y9) (leap_Check.j3 (k + 1) y0 y1 y2 y3 y4 y5 y6 y7 y8 y9)) ∧ (∀ y0 y1 y2 y3 y4 y5 y6 y7 y8 y9, LeO (leap_Check.j4 k y0 y1 y2 y3 y4 y5 y6 y7 y8 y9) (leap_Check.j4 (k + 1) y0 y1 y2 y3 y4 y5 y6 y7 y8 y9))
  | 0 => ⟨fun _ _ _ _ r h => by simp [leap_Check.j0] at h, fun _ _ _ _ _ _ _ r h => by simp [leap_Check.l0] at h, fun _ _ _ _ _ _ r h => by simp [leap_Check.l1] at h, fun _ _ _ _ _ _ _ _ _ _ r h => by simp [leap_Check.j3] at h, fun _ _ _ _ _ _ _ _ _ _ r h => by simp [leap_Check.j4] at h⟩
  | k + 1 => by
    obtain ⟨ih0, ih1, ih2, ih3, ih4⟩ := leap_Check.mono_l k
    refine ⟨?_, ?_, ?_, ?_, ?_⟩
    · intro y0 y1 y2 y3
      unfold leap_Check.j0
      repeat' first
      | (with_reducible exact ih0 _ _ _ _)
      | (with_reducible exact ih1 _ _ _ _ _ _ _)
      | (with_reducible exact ih2 _ _ _ _ _ _)
      | (with_reducible exact ih3 _ _ _ _ _ _ _ _ _ _)
      | (with_reducible exact ih4 _ _ _ _ _ _ _ _ _ _)
      | (with_reducible exact LeO.refl _)
      | (with_reducible exact LeO.none _)
      | (with_reducible refine LeO.ite ?_ ?_)
      | (with_reducible refine LeO.bind ?_ (fun _ => ?_))
      | exact ih0 _ _ _ _
      | exact ih1 _ _ _ _ _ _ _
      | exact ih2 _ _ _ _ _ _
      | exact ih3 _ _ _ _ _ _ _ _ _ _
      | exact ih4 _ _ _ _ _ _ _ _ _ _
      | exact LeO.none _
      | refine LeO.ite ?_ ?_
      | refine LeO.bind ?_ (fun _ => ?_)
    · intro y0 y1 y2 y3 y4 y5 y6
      unfold leap_Check.l0
      repeat' first
      | (with_reducible exact ih0 _ _ _ _)
      | (with_reducible exact ih1 _ _ _ _ _ _ _)
      | (with_reducible exact ih2 _ _ _ _ _ _)
      | (with_reducible exact ih3 _ _ _ _ _ _ _ _ _ _)
      | (with_reducible exact ih4 _ _ _ _ _ _ _ _ _ _)
      | (with_reducible exact LeO.refl _)
      | (with_reducible exact LeO.none _)
      | (with_reducible refine LeO.ite ?_ ?_)
      | (with_reducible refine LeO.bind ?_ (fun _ => ?_))
      | exact ih0 _ _ _ _
      | exact ih1 _ _ _ _ _ _ _
      | exact ih2 _ _ _ _ _ _
      | exact ih3 _ _ _ _ _ _ _ _ _ _
      | exact ih4 _ _ _ _ _ _ _ _ _ _
      | exact LeO.none _
      | refine LeO.ite ?_ ?_
      | refine LeO.bind ?_ (fun _ => ?_)
    · intro y0 y1 y2 y3 y4 y5
      unfold leap_Check.l1
      repeat' first
      | (with_reducible exact ih0 _ _ _ _)
      | (with_reducible exact ih1 _ _ _ _ _ _ _)
      | (with_reducible exact ih2 _ _ _ _ _ _)
      | (with_reducible exact ih3 _ _ _ _ _ _ _ _ _ _)
      | (with_reducible exact ih4 _ _ _ _ _ _ _ _ _ _)
      | (with_reducible exact LeO.refl _)
      | (with_reducible exact LeO.none _)
      | (with_reducible refine LeO.ite ?_ ?_)
      | (with_reducible refine LeO.bind ?_ (fun _ => ?_))
      | exact ih0 _ _ _ _
      | exact ih1 _ _ _ _ _ _ _
      | exact ih2 _ _ _ _ _ _
      | exact ih3 _ _ _ _ _ _ _ _ _ _
      | exact ih4 _ _ _ _ _ _ _ _ _ _
      | exact LeO.none _
      | refine LeO.ite ?_ ?_
      | refine LeO.bind ?_ (fun _ => ?_)
    · intro y0 y1 y2 y3 y4 y5 y6 y7 y8 y9
      unfold leap_Check.j3
      repeat' first
      | (with_reducible exact ih0 _ _ _ _)
      | (with_reducible exact ih1 _ _ _ _ _ _ _)
      | (with_reducible exact ih2 _ _ _ _ _ _)
      | (with_reducible exact ih3 _ _ _ _ _ _ _ _ _ _)
      | (with_reducible exact ih4 _ _ _ _ _ _ _ _ _ _)
      | (with_reducible exact LeO.refl _)
      | (with_reducible exact LeO.none _)
      | (with_reducible refine LeO.ite ?_ ?_)
      | (with_reducible refine LeO.bind ?_ (fun _ => ?_))
      | exact ih0 _ _ _ _
      | exact ih1 _ _ _ _ _ _ _
      | exact ih2 _ _ _ _ _ _
      | exact ih3 _ _ _ _ _ _ _ _ _ _
      | exact ih4 _ _ _ _ _ _ _ _ _ _
      | exact LeO.none _
      | refine LeO.ite ?_ ?_
      | refine LeO.bind ?_ (fun _ => ?_)
    · intro y0 y1 y2 y3 y4 y5 y6 y7 y8 y9
      unfold leap_Check.j4
      repeat' first
      | (with_reducible exact ih0 _ _ _ _)
      | (with_reducible exact ih1 _ _ _ _ _ _ _)
      | (with_reducible exact ih2 _ _ _ _ _ _)
      | (with_reducible exact ih3 _ _ _ _ _ _ _ _ _ _)
      | (with_reducible exact ih4 _ _ _ _ _ _ _ _ _ _)
      | (with_reducible exact LeO.refl _)
      | (with_reducible exact LeO.none _)
      | (with_reducible refine LeO.ite ?_ ?_)
      | (with_reducible refine LeO.bind ?_ (fun _ => ?_))
      | exact ih0 _ _ _ _
      | exact ih1 _ _ _ _ _ _ _
      | exact ih2 _ _ _ _ _ _
      | exact ih3 _ _ _ _ _ _ _ _ _ _
      | exact ih4 _ _ _ _ _ _ _ _ _ _
      | exact LeO.none _
      | refine LeO.ite ?_ ?_
      | refine LeO.bind ?_ (fun _ => ?_)
theorem leap_Check.mono : ∀ a0 a1 a2 k, LeO (leap_Check.f k a0 a1 a2) (leap_Check.f (k + 1) a0 a1 a2) := by
  intro a0 a1 a2 k
  obtain ⟨ih0, ih1, ih2, ih3, ih4⟩ := leap_Check.mono_l k
  unfold leap_Check.f
  repeat' first
      | (with_reducible exact ih0 _ _ _ _)
      | (with_reducible exact ih1 _ _ _ _ _ _ _)
      | (with_reducible exact ih2 _ _ _ _ _ _)
      | (with_reducible exact ih3 _ _ _ _ _ _ _ _ _ _)
      | (with_reducible exact ih4 _ _ _ _ _ _ _ _ _ _)
      | (with_reducible exact LeO.refl _)
      | (with_reducible exact LeO.none _)
      | (with_reducible refine LeO.ite ?_ ?_)
      | (with_reducible refine LeO.bind ?_ (fun _ => ?_))
      | exact ih0 _ _ _ _
      | exact ih1 _ _ _ _ _ _ _
      | exact ih2 _ _ _ _ _ _
      | exact ih3 _ _ _ _ _ _ _ _ _ _
      | exact ih4 _ _ _ _ _ _ _ _ _ _
      | exact LeO.none _
      | refine LeO.ite ?_ ?_
      | refine LeO.bind ?_ (fun _ => ?_)

/-! ### leap_count: function 31 -/
def leap_count.l0 : Nat → Int → Int → Int → Int → List (S44) → Option (Int)
  | 0, _, _, _, _, _ => none
  | k + 1, x1, x5, x132000, x132001, x132002 => if x5 < (x132002.length : Int) then (if 0 ≤ x5 then (if ((rd_T44 x132002 x5).f0) ≤ x1 then (leap_count.l0 k x1 (wrap64 (x5 + 1)) x132000 x132001 x132002) else (some x5)) else (none)) else (some x5)
def leap_count.f (k : Nat) (a0_0 : Int) (a0_1 : Int) (l0_2 : List (S44)) (a1 : Int) : Option (Int) := leap_count.l0 k a1 0 a0_0 a0_1 l0_2
theorem leap_count.mono_l : ∀ k, (∀ y0 y1 y2 y3 y4, LeO (leap_count.l0 k y0 y1 y2 y3 y4) (leap_count.l0 (k + 1) y0 y1 y2 y3 y4))
  | 0 => fun _ _ _ _ _ r h => by simp [leap_count.l0] at h
  | k + 1 => by
    have ih0 := leap_count.mono_l k
    · intro y0 y1 y2 y3 y4
      unfold leap_count.l0
      repeat' first
      | (with_reducible exact ih0 _ _ _ _ _)
      | (with_reducible exact LeO.refl _)
      | (with_reducible exact LeO.none _)
      | (with_reducible refine LeO.ite ?_ ?_)
      | (with_reducible refine LeO.bind ?_ (fun _ => ?_))
      | exact ih0 _ _ _ _ _
      | exact LeO.none _
      | refine LeO.ite ?_ ?_
      | refine LeO.bind ?_ (fun _ => ?_)
theorem leap_count.mono : ∀ a0 a1 a2 a3 k, LeO (leap_count.f k a0 a1 a2 a3) (leap_count.f (k + 1) a0 a1 a2 a3) := by
  intro a0 a1 a2 a3 k
  have ih0 := leap_count.mono_l k
  unfold leap_count.f
  repeat' first
      | (with_reducible exact ih0 _ _ _ _ _)
      | (with_reducible exact LeO.refl _)
      | (with_reducible exact LeO.none _)
      | (with_reducible refine LeO.ite ?_ ?_)
      | (with_reducible refine LeO.bind ?_ (fun _ => ?_))
      | exact ih0 _ _ _ _ _
      | exact LeO.none _
      | refine LeO.ite ?_ ?_
      | refine LeO.bind ?_ (fun _ => ?_)

/-! ### leap_changes: function 30 -/
def leap_changes.f (k : Nat) (a0_0 : Int) (a0_1 : Int) (l0_2 : List (S44)) (a1 : Int) : Option (Int) := (leap_count.f k a0_0 a0_1 l0_2 a1).bind fun t134 => (if t134 = (l0_2.length : Int) then (some 0) else (if 0 ≤ t134 then (if t134 < (l0_2.length : Int) then (if ((rd_T44 l0_2 t134).f0) = (wrap64 (a1 + 1)) then ((leap_old.f a0_0 a0_1 l0_2 t134).bind fun t137 => (some (wrap64 (((rd_T44 l0_2 t134).f1) - t137)))) else (some 0)) else (none)) else (none)))
theorem leap_changes.mono : ∀ a0 a1 a2 a3 k, LeO (leap_changes.f k a0 a1 a2 a3) (leap_changes.f (k + 1) a0 a1 a2 a3) := by
  intro a0 a1 a2 a3 k
  unfold leap_changes.f
  repeat' first
      | (with_reducible exact leap_count.mono _ _ _ _ _)
      | (with_reducible exact LeO.refl _)
      | (with_reducible exact LeO.none _)
      | (with_reducible refine LeO.ite ?_ ?_)
      | (with_reducible refine LeO.bind ?_ (fun _ => ?_))
      | exact leap_count.mono _ _ _ _ _
      | exact LeO.none _
      | refine LeO.ite ?_ ?_
      | refine LeO.bind ?_ (fun _ => ?_)

/-! ### leap_TAI: function 13 -/
def leap_TAI.j0 : Nat → Bool → Int → Int → Bool → Option (Int × Int)
  | 0, _, _, _, _ => none
  | k + 1, x2, x9, x10, x29 => if x29 = true then (some (wrap64 (x10 + 1), 0)) else (if x2 = true then (some (0, 11)) else (if x9 = (-1) then (some (0, 11)) else (some (x10, 0))))
def leap_TAI.f (k : Nat) (a0_0 : Int) (a0_1 : Int) (l0_2 : List (S44)) (a1 : Int) (a2 : Bool) : Option (Int × Int) := (leap_Check.f k a0_0 a0_1 l0_2).bind fun t139 => (if t139 = 0 then ((leap_inside.f a1).bind fun t140 => (if t140 = true then ((leap_changes.f k a0_0 a0_1 l0_2 a1).bind fun t141 => ((leap_count.f k a0_0 a0_1 l0_2 a1).bind fun t142 => ((leap_old.f a0_0 a0_1 l0_2 t142).bind fun t143 => (if a2 = true then (leap_TAI.j0 k a2 t141 (wrap64 (a1 + t143)) (t141 == 1)) else (leap_TAI.j0 k a2 t141 (wrap64 (a1 + t143)) false))))) else (some (0, 3)))) else (some (0, t139)))
theorem leap_TAI.mono_l : ∀ k, (∀ y0 y1 y2 y3, LeO (leap_TAI.j0 k y0 y1 y2 y3) (leap_TAI.j0 (k + 1) y0 y1 y2 y3))
  | 0 => fun _ _ _ _ r h => by simp [leap_TAI.j0] at h
  | k + 1 => by
    have ih0 := leap_TAI.mono_l k
    · intro y0 y1 y2 y3
      unfold leap_TAI.j0
      repeat' first
      | (with_reducible exact ih0 _ _ _ _)
      | (with_reducible exact leap_Check.mono _ _ _ _)
      | (with_reducible exact leap_changes.mono _ _ _ _ _)
      | (with_reducible exact leap_count.mono _ _ _ _ _)
      | (with_reducible exact LeO.refl _)
      | (with_reducible exact LeO.none _)
      | (with_reducible refine LeO.ite ?_ ?_)
      | (with_reducible refine LeO.bind ?_ (fun _ => ?_))
      | exact ih0 _ _ _ _
      | exact leap_Check.mono _ _ _ _
      | exact leap_changes.mono _ _ _ _ _
      | exact leap_count.mono _ _ _ _ _
      | exact LeO.none _
      | refine LeO.ite ?_ ?_
      | refine LeO.bind ?_ (fun _ => ?_)
theorem leap_TAI.mono : ∀ a0 a1 a2 a3 a4 k, LeO (leap_TAI.f k a0 a1 a2 a3 a4) (leap_TAI.f (k + 1) a0 a1 a2 a3 a4) := by
  intro a0 a1 a2 a3 a4 k
  have ih0 := leap_TAI.mono_l k
  unfold leap_TAI.f
  repeat' first
      | (with_reducible exact ih0 _ _ _ _)
      | (with_reducible exact leap_Check.mono _ _ _ _)
      | (with_reducible exact leap_changes.mono _ _ _ _ _)
      | (with_reducible exact leap_count.mono _ _ _ _ _)
      | (with_reducible exact LeO.refl _)
      | (with_reducible exact LeO.none _)
      | (with_reducible refine LeO.ite ?_ ?_)
      | (with_reducible refine LeO.bind ?_ (fun _ => ?_))
      | exact ih0 _ _ _ _
      | exact leap_Check.mono _ _ _ _
      | exact leap_changes.mono _ _ _ _ _
      | exact leap_count.mono _ _ _ _ _
      | exact LeO.none _
      | refine LeO.ite ?_ ?_
      | refine LeO.bind ?_ (fun _ => ?_)

/-! ### leap_UTC: function 15 -/
mutual
def leap_UTC.j0 : Nat → Int → Bool → Int → Int → List (S44) → Option (Int × Bool × Int)
  | 0, _, _, _, _, _ => none
  | k + 1, x1, x23, x145000, x145001, x145002 => if x23 = true then (some (0, false, 3)) else (leap_UTC.l0 k x1 x145000 0 false x145002 (x145002.length : Int) 0)
def leap_UTC.j2 : Nat → Int → Int → Int → Bool → Option (Int × Bool × Int)
  | 0, _, _, _, _ => none
  | k + 1, x1, x8, x9, x10 => if x10 = true then ((leap_inside.f x9).bind fun t148 => (if t148 = true then (some (x9, x10, 0)) else (some (0, false, 3)))) else ((leap_inside.f (wrap64 (x1 - x8))).bind fun t149 => (if t149 = true then (some (wrap64 (x1 - x8), x10, 0)) else (some (0, false, 3))))
def leap_UTC.l0 : Nat → Int → Int → Int → Bool → List (S44) → Int → Int → Option (Int × Bool × Int)
  | 0, _, _, _, _, _, _, _ => none
  | k + 1, x1, x8, x9, x10, x27, x28, x29 => if x29 < x28 then (if 0 ≤ x29 then (if x29 < (x27.length : Int) then (if x1 < (wrap64 (((rd_T44 x27 x29).f0) + ((rd_T44 x27 x29).f1))) then (if ((rd_T44 x27 x29).f1) > x8 then (leap_UTC.j2 k x1 x8 (wrap64 (((rd_T44 x27 x29).f0) - 1)) (x1 == (wrap64 ((wrap64 (((rd_T44 x27 x29).f0) + ((rd_T44 x27 x29).f1))) - 1)))) else (leap_UTC.j2 k x1 x8 (wrap64 (((rd_T44 x27 x29).f0) - 1)) false)) else (leap_UTC.l0 k x1 ((rd_T44 x27 x29).f1) x9 x10 x27 x28 (wrap64 (x29 + 1)))) else (none)) else (none)) else (leap_UTC.j2 k x1 x8 x9 x10)
end
def leap_UTC.f (k : Nat) (a0_0 : Int) (a0_1 : Int) (l0_2 : List (S44)) (a1 : Int) : Option (Int × Bool × Int) := (leap_Check.f k a0_0 a0_1 l0_2).bind fun t145 => (if t145 = 0 then (if a1 < (-8000002000) then (leap_UTC.j0 k a1 true a0_0 a0_1 l0_2) else (leap_UTC.j0 k a1 (decide (a1 > 8000002000)) a0_0 a0_1 l0_2)) else (some (0, false, t145)))
theorem leap_UTC.mono_l : ∀ k, (∀ y0 y1 y2 y3 y4, LeO (leap_UTC.j0 k y0 y1 y2 y3 y4) (leap_UTC.j0 (k + 1) y0 y1 y2 y3 y4)) ∧ (∀ y0 y1 y2 y3, LeO (leap_UTC.j2 k y0 y1 y2 y3) (leap_UTC.j2 (k + 1) y0 y1 y2 y3)) ∧ (∀ y0 y1 y2 y3 y4 y5 y6, LeO (leap_UTC.l0 k y0 y1 y2 y3 y4 y5 y6) (leap_UTC.l0 (k + 1) y0 y1 y2 y3 y4 y5 y6))
  | 0 => ⟨fun _ _ _ _ _ r h => by simp [leap_UTC.j0] at h, fun _ _ _ _ r h => by simp [leap_UTC.j2] at h, fun _ _ _ _ _ _ _ r h => by simp [leap_UTC.l0] at h⟩
  | k + 1 => by
    obtain ⟨ih0, ih1, ih2⟩ := leap_UTC.mono_l k
    refine ⟨?_, ?_, ?_⟩
    · intro y0 y1 y2 y3 y4
      unfold leap_UTC.j0
      repeat' first
      | (with_reducible exact ih0 _ _ _ _ _)
      | (with_reducible exact ih1 _ _ _ _)
      | (with_reducible exact ih2 _ _ _ _ _ _ _)
      | (with_reducible exact leap_Check.mono _ _ _ _)
      | (with_reducible exact LeO.refl _)
      | (with_reducible exact LeO.none _)
      | (with_reducible refine LeO.ite ?_ ?_)
      | (with_reducible refine LeO.bind ?_ (fun _ => ?_))
      | exact ih0 _ _ _ _ _
      | exact ih1 _ _ _ _
      | exact ih2 _ _ _ _ _ _ _
      | exact leap_Check.mono _ _ _ _
      | exact LeO.none _
      | refine LeO.ite ?_ ?_
      | refine LeO.bind ?_ (fun _ => ?_)
    · intro y0 y1 y2 y3
      unfold leap_UTC.j2
      repeat' first
      | (with_reducible exact ih0 _ _ _ _ _)
      | (with_reducible exact ih1 _ _ _ _)
      | (with_reducible exact ih2 _ _ _ _ _ _ _)
      | (with_reducible exact leap_Check.mono _ _ _ _)
      | (with_reducible exact LeO.refl _)
      | (with_reducible exact LeO.none _)
      | (with_reducible refine LeO.ite ?_ ?_)
      | (with_reducible refine LeO.bind ?_ (fun _ => ?_))
      | exact ih0 _ _ _ _ _
      | exact ih1 _ _ _ _
      | exact ih2 _ _ _ _ _ _ _
      | exact leap_Check.mono _ _ _ _
      | exact LeO.none _
      | refine LeO.ite ?_ ?_
      | refine LeO.bind ?_ (fun _ => ?_)
    · intro y0 y1 y2 y3 y4 y5 y6
      unfold leap_UTC.l0
      repeat' first
      | (with_reducible exact ih0 _ _ _ _ _)
      | (with_reducible exact ih1 _ _ _ _)
      | (with_reducible exact ih2 _ _ _ _ _ _ _)
      | (with_reducible exact leap_Check.mono _ _ _ _)
      | (with_reducible exact LeO.refl _)
      | (with_reducible exact LeO.none _)
      | (with_reducible refine LeO.ite ?_ ?_)
      | (with_reducible refine LeO.bind ?_ (fun _ => ?_))
      | exact ih0 _ _ _ _ _
      | exact ih1 _ _ _ _
      | exact ih2 _ _ _ _ _ _ _
      | exact leap_Check.mono _ _ _ _
      | exact LeO.none _
      | refine LeO.ite ?_ ?_
      | refine LeO.bind ?_ (fun _ => ?_)
theorem leap_UTC.mono : ∀ a0 a1 a2 a3 k, LeO (leap_UTC.f k a0 a1 a2 a3) (leap_UTC.f (k + 1) a0 a1 a2 a3) := by
  intro a0 a1 a2 a3 k
  obtain ⟨ih0, ih1, ih2⟩ := leap_UTC.mono_l k
  unfold leap_UTC.f
  repeat' first
      | (with_reducible exact ih0 _ _ _ _ _)
      | (with_reducible exact ih1 _ _ _ _)
      | (with_reducible exact ih2 _ _ _ _ _ _ _)
      | (with_reducible exact leap_Check.mono _ _ _ _)
      | (with_reducible exact LeO.refl _)
      | (with_reducible exact LeO.none _)
      | (with_reducible refine LeO.ite ?_ ?_)
      | (with_reducible refine LeO.bind ?_ (fun _ => ?_))
      | exact ih0 _ _ _ _ _
      | exact ih1 _ _ _ _
      | exact ih2 _ _ _ _ _ _ _
      | exact leap_Check.mono _ _ _ _
      | exact LeO.none _
      | refine LeO.ite ?_ ?_
      | refine LeO.bind ?_ (fun _ => ?_)

/-! ### leap_Offset: function 17 -/
def leap_Offset.f (k : Nat) (a0_0 : Int) (a0_1 : Int) (l0_2 : List (S44)) (a1 : Int) : Option (Int) := (leap_Check.f k a0_0 a0_1 l0_2).bind fun t151 => (if t151 = 0 then ((leap_count.f k a0_0 a0_1 l0_2 a1).bind fun t152 => ((leap_old.f a0_0 a0_1 l0_2 t152).bind fun t153 => (some t153))) else (some 0))
theorem leap_Offset.mono : ∀ a0 a1 a2 a3 k, LeO (leap_Offset.f k a0 a1 a2 a3) (leap_Offset.f (k + 1) a0 a1 a2 a3) := by
  intro a0 a1 a2 a3 k
  unfold leap_Offset.f
  repeat' first
      | (with_reducible exact leap_Check.mono _ _ _ _)
      | (with_reducible exact leap_count.mono _ _ _ _ _)
      | (with_reducible exact LeO.refl _)
      | (with_reducible exact LeO.none _)
      | (with_reducible refine LeO.ite ?_ ?_)
      | (with_reducible refine LeO.bind ?_ (fun _ => ?_))
      | exact leap_Check.mono _ _ _ _
      | exact leap_count.mono _ _ _ _ _
      | exact LeO.none _
      | refine LeO.ite ?_ ?_
      | refine LeO.bind ?_ (fun _ => ?_)

/-! ### w6_same: function 20 -/
mutual
def w6_same.j0 : Nat → Bool → Int → Int → List (S44) → Int → Int → List (S44) → Option (Bool)
  | 0, _, _, _, _, _, _, _ => none
  | k + 1, x26, x155000, x155001, x155002, x156000, x156001, x156002 => if x26 = true then (some false) else (w6_same.l0 k 0 x155000 x155001 x155002 x156000 x156001 x156002)
def w6_same.l0 : Nat → Int → Int → Int → List (S44) → Int → Int → List (S44) → Option (Bool)
  | 0, _, _, _, _, _, _, _ => none
  | k + 1, x5, x155000, x155001, x155002, x156000, x156001, x156002 => if x5 < (x155002.length : Int) then (if 0 ≤ x5 then (if x5 < (x156002.length : Int) then (if (!(((rd_T44 x155002 x5).f0) == ((rd_T44 x156002 x5).f0)) || (!(((rd_T44 x155002 x5).f1) == ((rd_T44 x156002 x5).f1)))) = true then (some false) else (w6_same.l0 k (wrap64 (x5 + 1)) x155000 x155001 x155002 x156000 x156001 x156002)) else (none)) else (none)) else (some true)
end
def w6_same.f (k : Nat) (a0_0 : Int) (a0_1 : Int) (l0_2 : List (S44)) (a1_0 : Int) (a1_1 : Int) (l1_2 : List (S44)) : Option (Bool) := if a0_0 = a1_0 then (if a0_1 = a1_1 then (w6_same.j0 k ((l0_2.length : Int) != (l1_2.length : Int)) a0_0 a0_1 l0_2 a1_0 a1_1 l1_2) else (w6_same.j0 k true a0_0 a0_1 l0_2 a1_0 a1_1 l1_2)) else (w6_same.j0 k true a0_0 a0_1 l0_2 a1_0 a1_1 l1_2)
theorem w6_same.mono_l : ∀ k, (∀ y0 y1 y2 y3 y4 y5 y6, LeO (w6_same.j0 k y0 y1 y2 y3 y4 y5 y6) (w6_same.j0 (k + 1) y0 y1 y2 y3 y4 y5 y6)) ∧ (∀ y0 y1 y2 y3 y4 y5 y6, LeO (w6_same.l0 k y0 y1 y2 y3 y4 y5 y6) (w6_same.l0 (k + 1) y0 y1 y2 y3 y4 y5 y6))
  | 0 => ⟨fun _ _ _ _ _ _ _ r h => by simp [w6_same.j0] at h, fun _ _ _ _ _ _ _ r h => by simp [w6_same.l0] at h⟩
  | k + 1 => by
    obtain ⟨ih0, ih1⟩ := w6_same.mono_l k
    refine ⟨?_, ?_⟩
    · intro y0 y1 y2 y3 y4 y5 y6
      unfold w6_same.j0
      repeat' first
      | (with_reducible exact ih0 _ _ _ _ _ _ _)
      | (with_reducible exact ih1 _ _ _ _ _ _ _)
      | (with_reducible exact LeO.refl _)
      | (with_reducible exact LeO.none _)
      | (with_reducible refine LeO.ite ?_ ?_)
      | (with_reducible refine LeO.bind ?_ (fun _ => ?_))
      | exact ih0 _ _ _ _ _ _ _
      | exact ih1 _ _ _ _ _ _ _
      | exact LeO.none _
      | refine LeO.ite ?_ ?_
      | refine LeO.bind ?_ (fun _ => ?_)
    · intro y0 y1 y2 y3 y4 y5 y6
      unfold w6_same.l0
      repeat' first
      | (with_reducible exact ih0 _ _ _ _ _ _ _)
      | (with_reducible exact ih1 _ _ _ _ _ _ _)
      | (with_reducible exact LeO.refl _)
      | (with_reducible exact LeO.none _)
      | (with_reducible refine LeO.ite ?_ ?_)
      | (with_reducible refine LeO.bind ?_ (fun _ => ?_))
      | exact ih0 _ _ _ _ _ _ _
      | exact ih1 _ _ _ _ _ _ _
      | exact LeO.none _
      | refine LeO.ite ?_ ?_
      | refine LeO.bind ?_ (fun _ => ?_)
theorem w6_same.mono : ∀ a0 a1 a2 a3 a4 a5 k, LeO (w6_same.f k a0 a1 a2 a3 a4 a5) (w6_same.f (k + 1) a0 a1 a2 a3 a4 a5) := by
  intro a0 a1 a2 a3 a4 a5 k
  obtain ⟨ih0, ih1⟩ := w6_same.mono_l k
  unfold w6_same.f
  repeat' first
      | (with_reducible exact ih0 _ _ _ _ _ _ _)
      | (with_reducible exact ih1 _ _ _ _ _ _ _)
      | (with_reducible exact LeO.refl _)
      | (with_reducible exact LeO.none _)
      | (with_reducible refine LeO.ite ?_ ?_)
      | (with_reducible refine LeO.bind ?_ (fun _ => ?_))
      | exact ih0 _ _ _ _ _ _ _
      | exact ih1 _ _ _ _ _ _ _
      | exact LeO.none _
      | refine LeO.ite ?_ ?_
      | refine LeO.bind ?_ (fun _ => ?_)

/-! ### leap_Indicator: function 21 -/
mutual
def leap_Indicator.l0 : Nat → Int → Bool → List (S44) → Int → Int → Int → Int → List (S44) → Option (Int)
  | 0, _, _, _, _, _, _, _, _ => none
  | k + 1, x5, x6, x22, x23, x24, x159000, x159001, x159002 => if x24 < x23 then (if 0 ≤ x24 then (if x24 < (x22.length : Int) then (if x6 = true then (leap_Indicator.j1 k x5 x6 x24 x22 x23 x24 (((rd_T44 x22 x24).f0) == x5) x159000 x159001 x159002 ((rd_T44 x22 x24).f0) ((rd_T44 x22 x24).f1)) else (leap_Indicator.j1 k x5 x6 x24 x22 x23 x24 false x159000 x159001 x159002 ((rd_T44 x22 x24).f0) ((rd_T44 x22 x24).f1))) else (none)) else (none)) else (some 0)
def leap_Indicator.j1 : Nat → Int → Bool → Int → List (S44) → Int → Int → Bool → Int → Int → List (S44) → Int → Int → Option (Int)
  | 0, _, _, _, _, _, _, _, _, _, _, _, _ => none
  | k + 1, x5, x6, x7, x22, x23, x24, x35, x159000, x159001, x159002, x164000, x164001 => if x35 = true then ((leap_old.f x159000 x159001 x159002 x7).bind fun t164 => (if x164001 > t164 then (some 1) else (some 2))) else (leap_Indicator.l0 k x5 x6 x22 x23 (wrap64 (x24 + 1)) x159000 x159001 x159002)
end
def leap_Indicator.f (k : Nat) (a0_0 : Int) (a0_1 : Int) (l0_2 : List (S44)) (a1 : Int) : Option (Int) := (leap_Check.f k a0_0 a0_1 l0_2).bind fun t159 => (if t159 = 0 then (if a1 ≥ a0_1 then (some 3) else ((leap_month.f a1 1).bind fun bt160 => (leap_Indicator.l0 k bt160.1 bt160.2 l0_2 (l0_2.length : Int) 0 a0_0 a0_1 l0_2))) else (some 0))
theorem leap_Indicator.mono_l : ∀ k, (∀ y0 y1 y2 y3 y4 y5 y6 y7, LeO (leap_Indicator.l0 k y0 y1 y2 y3 y4 y5 y6 y7) (leap_Indicator.l0 (k + 1) y0 y1 y2 y3 y4 y5 y6 y7)) ∧ (∀ y0 y1 y2 y3 y4 y5 y6 y7 y8 y9 y10 y11, LeO (leap_Indicator.j1 k y0 y1 y2 y3 y4 y5 y6 y7 y8 y9 y10 y11) (leap_Indicator.j1 (k + 1) y0 y1 y2 y3 y4 y5 y6 y7 y8 y9 y10 y11))
  | 0 => ⟨fun _ _ _ _ _ _ _ _ r h => by simp [leap_Indicator.l0] at h, fun _ _ _ _ _ _ _ _ _ _ _ _ r h => by simp [leap_Indicator.j1] at h⟩
  | k + 1 => by
    obtain ⟨ih0, ih1⟩ := leap_Indicator.mono_l k
    refine ⟨?_, ?_⟩
    · intro y0 y1 y2 y3 y4 y5 y6 y7
      unfold leap_Indicator.l0
      repeat' first
      | (with_reducible exact ih0 _ _ _ _ _ _ _ _)
      | (with_reducible exact ih1 _ _ _ _ _ _ _ _ _ _ _ _)
      | (with_reducible exact leap_Check.mono _ _ _ _)
      | (with_reducible exact LeO.refl _)
      | (with_reducible exact LeO.none _)
      | (with_reducible refine LeO.ite ?_ ?_)
      | (with_reducible refine LeO.bind ?_ (fun _ => ?_))
      | exact ih0 _ _ _ _ _ _ _ _
      | exact ih1 _ _ _ _ _ _ _ _ _ _ _ _
      | exact leap_Check.mono _ _ _ _
      | exact LeO.none _
      | refine LeO.ite ?_ ?_
      | refine LeO.bind ?_ (fun _ => ?_)
    · intro y0 y1 y2 y3 y4 y5 y6 y7 y8 y9 y10 y11
      unfold leap_Indicator.j1
      repeat' first
      | (with_reducible exact ih0 _ _ _ _ _ _ _ _)
      | (with_reducible exact ih1 _ _ _ _ _ _ _ _ _ _ _ _)
      | (with_reducible exact leap_Check.mono _ _ _ _)
      | (with_reducible exact LeO.refl _)
      | (with_reducible exact LeO.none _)
      | (with_reducible refine LeO.ite ?_ ?_)
      | (with_reducible refine LeO.bind ?_ (fun _ => ?_))
      | exact ih0 _ _ _ _ _ _ _ _
      | exact ih1 _ _ _ _ _ _ _ _ _ _ _ _
      | exact leap_Check.mono _ _ _ _
      | exact LeO.none _
      | refine LeO.ite ?_ ?_
      | refine LeO.bind ?_ (fun _ => ?_)
theorem leap_Indicator.mono : ∀ a0 a1 a2 a3 k, LeO (leap_Indicator.f k a0 a1 a2 a3) (leap_Indicator.f (k + 1) a0 a1 a2 a3) := by
  intro a0 a1 a2 a3 k
  obtain ⟨ih0, ih1⟩ := leap_Indicator.mono_l k
  unfold leap_Indicator.f
  repeat' first
      | (with_reducible exact ih0 _ _ _ _ _ _ _ _)
      | (with_reducible exact ih1 _ _ _ _ _ _ _ _ _ _ _ _)
      | (with_reducible exact leap_Check.mono _ _ _ _)
      | (with_reducible exact LeO.refl _)
      | (with_reducible exact LeO.none _)
      | (with_reducible refine LeO.ite ?_ ?_)
      | (with_reducible refine LeO.bind ?_ (fun _ => ?_))
      | exact ih0 _ _ _ _ _ _ _ _
      | exact ih1 _ _ _ _ _ _ _ _ _ _ _ _
      | exact leap_Check.mono _ _ _ _
      | exact LeO.none _
      | refine LeO.ite ?_ ?_
      | refine LeO.bind ?_ (fun _ => ?_)

/-! ### leap_Next: function 22 -/
def leap_Next.f (k : Nat) (a0_0 : Int) (a0_1 : Int) (l0_2 : List (S44)) (a1 : Int) : Option (Int × Int × Bool) := (leap_Check.f k a0_0 a0_1 l0_2).bind fun t167 => (if t167 = 0 then ((leap_count.f k a0_0 a0_1 l0_2 a1).bind fun t168 => (if t168 = (l0_2.length : Int) then (some (0, 0, false)) else (if 0 ≤ t168 then (if t168 < (l0_2.length : Int) then (some ((rd_T44 l0_2 t168).f0, (rd_T44 l0_2 t168).f1, true)) else (none)) else (none)))) else (some (0, 0, false)))
theorem leap_Next.mono : ∀ a0 a1 a2 a3 k, LeO (leap_Next.f k a0 a1 a2 a3) (leap_Next.f (k + 1) a0 a1 a2 a3) := by
  intro a0 a1 a2 a3 k
  unfold leap_Next.f
  repeat' first
      | (with_reducible exact leap_Check.mono _ _ _ _)
      | (with_reducible exact leap_count.mono _ _ _ _ _)
      | (with_reducible exact LeO.refl _)
      | (with_reducible exact LeO.none _)
      | (with_reducible refine LeO.ite ?_ ?_)
      | (with_reducible refine LeO.bind ?_ (fun _ => ?_))
      | exact leap_Check.mono _ _ _ _
      | exact leap_count.mono _ _ _ _ _
      | exact LeO.none _
      | refine LeO.ite ?_ ?_
      | refine LeO.bind ?_ (fun _ => ?_)
end Go.Proofs.YtipbkcilpnlgnaaDoor.M
