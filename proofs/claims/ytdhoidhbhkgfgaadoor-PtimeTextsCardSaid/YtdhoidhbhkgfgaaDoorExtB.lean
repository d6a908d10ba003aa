import Derived.Test.YtdhoidhbhkgfgaaDoorMD
import Derived.Laws.BitsAllLaws
import Derived.Laws.Bits64
import Derived.Lib.Hide
import Derived.WalkKit
import Derived.Test.YtdhoidhbhkgfgaaDoorM2
import Derived.Test.YtdhoidhbhkgfgaaDoorPa
namespace Go.Proofs.YtdhoidhbhkgfgaaDoor.M
open Go.RowKit Go.Proofs.YtdhoidhbhkgfgaaDoorW.PrintWords Go.Proofs.YtdhoidhbhkgfgaaDoorW.PrintLast
set_option linter.unusedVariables false
set_option linter.unusedSimpArgs false

theorem signed_small (k : Nat) (neg : Bool) (lo : Int) (h0 : 0 ≤ lo) (h1 : lo < 9223372036854775808 ∨ lo = 9223372036854775808 ∧ neg = true) (hk : 0 < k) :
    timesyncref01_signed.f k neg 0 lo = some (if neg = true then -lo else lo, true) := by
  obtain ⟨k, rfl⟩ : ∃ m, k = m + 1 := ⟨k - 1, by omega⟩
  unfold timesyncref01_signed.f
  rw [if_neg (by omega), if_neg (by omega)]
  have w0 : wrap64 lo = if lo = 9223372036854775808 then -9223372036854775808 else lo := by unfold wrap64; split <;> omega
  have key : timesyncref01_signed.j0 (k + 1) neg lo false = some (if neg = true then -lo else lo, true) := by
    simp only [timesyncref01_signed.j0]
    rw [if_neg (by decide)]
    cases neg with
    | true =>
      rw [if_pos rfl, if_pos rfl]
      by_cases hz : lo = 0
      · rw [if_pos hz]; subst hz; rfl
      · rw [if_neg hz, IntKind.wrap_u64]
        congr 2
        unfold wrap64
        omega
    | false =>
      rw [if_neg (by decide), if_neg (by decide)]
      have : wrap64 lo = lo := by
        rcases h1 with h1 | ⟨_, h1⟩
        · unfold wrap64; omega
        · cases h1
      rw [this]
  by_cases he : lo = 9223372036854775808
  · rw [if_pos he]
    rcases h1 with h1 | ⟨_, rfl⟩
    · omega
    · exact key
  · rw [if_neg he]
    exact key

set_option maxHeartbeats 1600000 in
set_option maxRecDepth 100000 in
theorem muldiv_pos (a0 a2 : Int) (w : World) (hc0 : 0 < a2) (hc : a2 ≤ 9223372036854775807) (h0 : 0 ≤ a0) (h1 : a0 ≤ 9223372036854775807) :
    Calls Tryd.prog 53 #[.int .i64 a0, .int .i64 1, .int .i64 a2] w fun e w' => e = .returned (.tuple #[.int .i64 (a0 / a2), .bool true]) ∧ Drawn0 w w' := by
  have s0 := size_eq a0 (by omega) h1
  rw [if_neg (by omega)] at s0
  have s1 := size_eq 1 (by omega) (by omega)
  rw [if_neg (by omega)] at s1
  have s2 := size_eq a2 (by omega) hc
  rw [if_neg (by omega)] at s2
  have hp := product_eq a0 1 h0 (by omega) (by omega) (by omega)
  rw [Int.mul_one, show a0 / 18446744073709551616 = 0 by omega, show a0 % 18446744073709551616 = a0 by omega] at hp
  have hd := divide_small 129 a0 a2 hc0 (by omega) h0 (by omega) (by omega)
  have hq0 : 0 ≤ a0 / a2 := Int.ediv_nonneg h0 (by omega)
  have hq1 : a0 / a2 ≤ a0 := Int.ediv_le_self _ h0
  have hs := signed_small 1 false (a0 / a2) hq0 (.inl (by omega)) (by omega)
  rw [if_neg (by decide)] at hs
  have S0 := Lib.hid s0; have S1 := Lib.hid s1; have S2 := Lib.hid s2; have HP := Lib.hid hp; have HD := Lib.hid hd; have HS := Lib.hid hs
  clear s0 s1 s2 hp hd hs
  have hr0 : 0 ≤ a0 % a2 := Int.emod_nonneg _ (by omega)
  generalize a0 / a2 = q at *
  generalize a0 % a2 = r at *
  go_enter Tryd.func53, Tryd.ntmps53
  go_wp2_with fail
  refine (timesyncref01_size.calls a0 a0 _ S0.out).mono ?_
  rintro e w' ⟨rfl, ⟨n1, rfl⟩⟩
  go_wp2_with fail
  refine (timesyncref01_size.calls 1 1 _ S1.out).mono ?_
  rintro e w' ⟨rfl, ⟨n2, rfl⟩⟩
  go_wp2_with fail
  refine (timesyncref01_product.calls a0 1 0 a0 _ HP.out).mono ?_
  rintro e w' ⟨rfl, ⟨n3, rfl⟩⟩
  go_wp2_with fail
  refine (timesyncref01_size.calls a2 a2 _ S2.out).mono ?_
  rintro e w' ⟨rfl, ⟨n4, rfl⟩⟩
  go_wp2_with fail
  refine (timesyncref01_divide.calls 129 0 a0 a2 0 q r _ HD.out).mono ?_
  rintro e w' ⟨rfl, ⟨n5, rfl⟩⟩
  go_wp2_with fail
  refine (timesyncref01_signed.calls 1 false 0 q q true _ HS.out).mono ?_
  rintro e w' ⟨rfl, ⟨n6, rfl⟩⟩
  go_wp2
  go_ret2
  exact ⟨rfl, ⟨_, rfl⟩⟩

set_option maxHeartbeats 1600000 in
set_option maxRecDepth 100000 in
theorem muldiv_neg (a0 a2 : Int) (w : World) (hc0 : 0 < a2) (hc : a2 ≤ 9223372036854775807) (h0 : a0 < 0) (h1 : -9223372036854775808 ≤ a0) :
    Calls Tryd.prog 53 #[.int .i64 a0, .int .i64 1, .int .i64 a2] w fun e w' => e = .returned (.tuple #[.int .i64 (a0 / a2), .bool true]) ∧ Drawn0 w w' := by
  have s0 := size_eq a0 h1 (by omega)
  rw [if_pos h0] at s0
  have s1 := size_eq 1 (by omega) (by omega)
  rw [if_neg (by omega)] at s1
  have s2 := size_eq a2 (by omega) hc
  rw [if_neg (by omega)] at s2
  have hp := product_eq (-a0) 1 (by omega) (by omega) (by omega) (by omega)
  rw [Int.mul_one, show -a0 / 18446744073709551616 = 0 by omega, show -a0 % 18446744073709551616 = -a0 by omega] at hp
  have hd := divide_small 129 (-a0) a2 hc0 (by omega) (by omega) (by omega) (by omega)
  have hq0 : 0 ≤ -a0 / a2 := Int.ediv_nonneg (by omega) (by omega)
  have hq1 : -a0 / a2 ≤ -a0 := Int.ediv_le_self _ (by omega)
  have hem := Int.emod_add_mul_ediv (-a0) a2
  have hr0 : 0 ≤ -a0 % a2 := Int.emod_nonneg _ (by omega)
  have hr1 : -a0 % a2 < a2 := Int.emod_lt_of_pos _ hc0
  have hres : a0 / a2 = if -a0 % a2 = 0 then -(-a0 / a2) else -(-a0 / a2 + 1) := by
    generalize -a0 / a2 = q at *
    generalize -a0 % a2 = r at *
    split
    · rename_i hz
      have : a0 = -q * a2 := by rw [Int.neg_mul, Int.mul_comm]; omega
      rw [this, Int.mul_ediv_cancel _ (by omega)]
    · rename_i hz
      have : a0 = (a2 - r) + -(q + 1) * a2 := by rw [Int.neg_mul, Int.add_mul, Int.mul_comm q]; omega
      rw [this, Int.add_mul_ediv_right _ _ (by omega), Int.ediv_eq_zero_of_lt (by omega) (by omega)]
      omega
  rw [hres]
  clear hres
  have hq2 : -a0 % a2 ≠ 0 → -a0 / a2 + 1 ≤ -a0 := by
    intro hz
    generalize -a0 / a2 = q at *
    generalize -a0 % a2 = r at *
    have : q ≤ a2 * q := by
      have := Int.mul_le_mul_of_nonneg_right (show 1 ≤ a2 by omega) hq0
      omega
    omega
  clear hem
  by_cases hz : -a0 % a2 = 0
  · rw [if_pos hz]
    have hs := signed_small 1 true (-a0 / a2) hq0 (by
      by_cases e : -a0 / a2 = 9223372036854775808
      · exact .inr ⟨e, rfl⟩
      · exact .inl (by omega)) (by omega)
    rw [if_pos rfl] at hs
    have S0 := Lib.hid s0; have S1 := Lib.hid s1; have S2 := Lib.hid s2; have HP := Lib.hid hp; have HD := Lib.hid hd; have HS := Lib.hid hs
    clear s0 s1 s2 hp hd hs hq2
    rw [hz] at HD
    clear hz hr0 hr1
    generalize -a0 / a2 = q at *
    have hdd : decide (a2 < 0) = false := by simp; omega
    go_enter Tryd.func53, Tryd.ntmps53
    go_wp2_with fail
    refine (timesyncref01_size.calls a0 (-a0) _ S0.out).mono ?_
    rintro e w' ⟨rfl, ⟨n1, rfl⟩⟩
    go_wp2_with fail
    refine (timesyncref01_size.calls 1 1 _ S1.out).mono ?_
    rintro e w' ⟨rfl, ⟨n2, rfl⟩⟩
    go_wp2_with fail
    refine (timesyncref01_product.calls (-a0) 1 0 (-a0) _ HP.out).mono ?_
    rintro e w' ⟨rfl, ⟨n3, rfl⟩⟩
    go_wp2_with fail
    refine (timesyncref01_size.calls a2 a2 _ S2.out).mono ?_
    rintro e w' ⟨rfl, ⟨n4, rfl⟩⟩
    go_wp2_with fail
    refine (timesyncref01_divide.calls 129 0 (-a0) a2 0 q 0 _ HD.out).mono ?_
    rintro e w' ⟨rfl, ⟨n5, rfl⟩⟩
    go_wp2_with fail
    refine (timesyncref01_signed.calls 1 true 0 q (-q) true _ HS.out).mono ?_
    rintro e w' ⟨rfl, ⟨n6, rfl⟩⟩
    go_wp2
    go_ret2
    exact ⟨rfl, ⟨_, rfl⟩⟩
  · rw [if_neg hz]
    have hq3 := hq2 hz
    have hs := signed_small 1 true (-a0 / a2 + 1) (by omega) (by
      by_cases e : -a0 / a2 + 1 = 9223372036854775808
      · exact .inr ⟨e, rfl⟩
      · exact .inl (by omega)) (by omega)
    rw [if_pos rfl] at hs
    have S0 := Lib.hid s0; have S1 := Lib.hid s1; have S2 := Lib.hid s2; have HP := Lib.hid hp; have HD := Lib.hid hd; have HS := Lib.hid hs
    clear s0 s1 s2 hp hd hs hq2
    have hr2 : 0 < -a0 % a2 := by omega
    clear hz hr0 hr1
    generalize -a0 / a2 = q at *
    generalize -a0 % a2 = r at *
    have hne : (q + 1 == 0) = false := by simp; omega
    have hdd : decide (a2 < 0) = false := by simp; omega
    go_enter Tryd.func53, Tryd.ntmps53
    go_wp2_with fail
    refine (timesyncref01_size.calls a0 (-a0) _ S0.out).mono ?_
    rintro e w' ⟨rfl, ⟨n1, rfl⟩⟩
    go_wp2_with fail
    refine (timesyncref01_size.calls 1 1 _ S1.out).mono ?_
    rintro e w' ⟨rfl, ⟨n2, rfl⟩⟩
    go_wp2_with fail
    refine (timesyncref01_product.calls (-a0) 1 0 (-a0) _ HP.out).mono ?_
    rintro e w' ⟨rfl, ⟨n3, rfl⟩⟩
    go_wp2_with fail
    refine (timesyncref01_size.calls a2 a2 _ S2.out).mono ?_
    rintro e w' ⟨rfl, ⟨n4, rfl⟩⟩
    go_wp2_with fail
    refine (timesyncref01_divide.calls 129 0 (-a0) a2 0 q r _ HD.out).mono ?_
    rintro e w' ⟨rfl, ⟨n5, rfl⟩⟩
    go_wp2_with fail
    refine (timesyncref01_signed.calls 1 true 0 (q + 1) (-(q + 1)) true _ HS.out).mono ?_
    rintro e w' ⟨rfl, ⟨n6, rfl⟩⟩
    go_wp2
    go_ret2
    exact ⟨rfl, ⟨_, rfl⟩⟩

theorem timesyncref01_MulDiv.calls (a0 : Int) (a1 : Int) (a2 : Int) (r1 : Int) (r2 : Bool) (w : World) (h : timesyncref01_MulDiv.f a0 a1 a2 = some (r1, r2)) :
    Calls Tryd.prog 53 #[.int .i64 a0, .int .i64 a1, .int .i64 a2] w fun e w' => e = .returned (.tuple #[.int .i64 r1, .bool r2]) ∧ Drawn0 w w' := by
  unfold timesyncref01_MulDiv.f at h
  split at h
  · rename_i hh
    obtain ⟨rfl, h1, h2, h3, h4⟩ := hh
    simp only [Option.some.injEq, Prod.mk.injEq] at h
    obtain ⟨rfl, rfl⟩ := h
    by_cases hn : a0 < 0
    · exact muldiv_neg a0 a2 w h1 h2 hn h3
    · exact muldiv_pos a0 a2 w h1 h2 (by omega) h4
  · cases h
end Go.Proofs.YtdhoidhbhkgfgaaDoor.M
