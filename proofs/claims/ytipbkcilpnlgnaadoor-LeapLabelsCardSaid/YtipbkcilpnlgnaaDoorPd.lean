/-
  The reference's long division by 86400, plain: the day of a second.
-/
import Derived.Test.YtipbkcilpnlgnaaDoorMD
import Derived.Test.YtipbkcilpnlgnaaDoorExtG
import Derived.Laws.BitsAllLaws
import Derived.Laws.Bits64
import Derived.WalkKit
namespace Go.Proofs.YtipbkcilpnlgnaaDoor.M
open Go.RowKit Go.Proofs.YtipbkcilpnlgnaaDoorG Go.Proofs.YtipbkcilpnlgnaaDoorW.PA Go.Proofs.YtipbkcilpnlgnaaDoorW.PB Go.Proofs.YtipbkcilpnlgnaaDoorW.PC
set_option linter.unusedVariables false
set_option linter.unusedSimpArgs false
theorem or_one (x c : Int) (h0 : 0 ≤ x) (h1 : x < 9223372036854775808) (hc : 0 ≤ c ∧ c < 2) : Go.bits .or .u64 (x * 2) c = x * 2 + c := by
  obtain ⟨x, rfl⟩ := Int.eq_ofNat_of_zero_le h0
  obtain ⟨c, rfl⟩ := Int.eq_ofNat_of_zero_le hc.1
  rw [u64_or _ _ (by omega) (by omega) (by omega) (by omega)]
  have h : ((x : Int) * 2).toNat = x <<< 1 := by rw [Nat.shiftLeft_eq]; omega
  rw [h, show ((c : Int)).toNat = c from by omega, ← Nat.shiftLeft_add_eq_or_of_lt (by omega) x, Nat.shiftLeft_eq]
  omega

/-- One turn of a shift to the left by one, with a bit let in: what was the top bit falls out. -/
theorem shl_or (x c : Int) (h0 : 0 ≤ x) (h1 : x < 18446744073709551616) (hc : 0 ≤ c ∧ c < 2) :
    Go.bits .or .u64 (IntKind.u64.wrap (x * 2)) c = (x % 9223372036854775808) * 2 + c := by
  rw [IntKind.wrap_u64, show x * 2 % 18446744073709551616 = (x % 9223372036854775808) * 2 from by omega]
  exact or_one _ _ (by omega) (by omega) hc
theorem shl_0 (x : Int) : IntKind.u64.wrap (x * 2) = (x % 9223372036854775808) * 2 := by
  rw [IntKind.wrap_u64]; omega

theorem pow_succ_int (d : Nat) : (2 : Int) ^ (d + 1) = 2 * 2 ^ d := by rw [Int.pow_succ]; omega
theorem pow_pos_int (d : Nat) : (0 : Int) < 2 ^ d := Int.pow_pos (by decide)

/-- The rounds of the long division, d of them to come: h is what is still to be read, E = 2^(128-d). -/
theorem divide_l0 (c : Int) (hc0 : 0 < c) (hc : c < 9223372036854775808) : ∀ (d : Nat) (k : Nat) (hi lo q1 q0 r i h E S : Int), 0 ≤ hi → hi < 18446744073709551616 → 0 ≤ lo → lo < 18446744073709551616 →
    0 ≤ q1 → q1 < 18446744073709551616 → 0 ≤ q0 → q0 < 18446744073709551616 → 0 ≤ r → r < c → (d : Int) = 128 - i → 0 ≤ i → d < k → 0 < E →
    E * 2 ^ d = 340282366920938463463374607431768211456 → hi * 18446744073709551616 + lo = h * E → 0 ≤ h → h < 2 ^ d → q1 * 18446744073709551616 + q0 < E → S = (q1 * 18446744073709551616 + q0) * c + r →
    ∃ p1 p0 t, r01_divide.l0 k hi lo c q1 q0 r i = some (p1, p0, t) ∧ 0 ≤ p1 ∧ 0 ≤ p0 ∧ p0 < 18446744073709551616 ∧ 0 ≤ t ∧ t < c ∧ (p1 * 18446744073709551616 + p0) * c + t = S * 2 ^ d + h := by
  intro d
  induction d with
  | zero =>
    intro k hi lo q1 q0 r i h E S a1 a2 a3 a4 a5 a6 a7 a8 a9 a10 hd hi0 hk hE hED hH hh0 hh1 hQ hS
    obtain ⟨k, rfl⟩ : ∃ m, k = m + 1 := ⟨k - 1, by omega⟩
    refine ⟨q1, q0, r, ?_, a5, a7, a8, a9, a10, ?_⟩
    · simp only [r01_divide.l0]
      rw [if_neg (by omega)]
    · have : h = 0 := by have : (2 : Int) ^ 0 = 1 := rfl; omega
      subst this
      rw [← hS]
      simp
  | succ d ih =>
    intro k hi lo q1 q0 r i h E S a1 a2 a3 a4 a5 a6 a7 a8 a9 a10 hd hi0 hk hE hED hH hh0 hh1 hQ hS
    obtain ⟨k, rfl⟩ : ∃ m, k = m + 1 := ⟨k - 1, by omega⟩
    rw [pow_succ_int] at hED hh1
    have hD := pow_pos_int d
    have hED' : E * 2 ^ d = 170141183460469231731687303715884105728 := by rw [Int.mul_left_comm] at hED; omega
    have hElt : E ≤ 170141183460469231731687303715884105728 := by
      have := Int.mul_le_mul_of_nonneg_left (show (1 : Int) ≤ 2 ^ d by omega) (show 0 ≤ E by omega)
      omega
    have hw : wrap64 (i + 1) = i + 1 := by unfold wrap64; omega
    -- what is to be read: its first bit, and the rest
    obtain ⟨t, h', rfl, ht, hh'0, hh'1⟩ : ∃ t h' : Int, h = t * 2 ^ d + h' ∧ (t = 0 ∨ t = 1) ∧ 0 ≤ h' ∧ h' < 2 ^ d := by
      by_cases hb : h < 2 ^ d
      · exact ⟨0, h, by omega, .inl rfl, hh0, hb⟩
      · exact ⟨1, h - 2 ^ d, by omega, .inr rfl, by omega, by omega⟩
    have hX : (t * 2 ^ d + h') * E = t * 170141183460469231731687303715884105728 + h' * E := by
      rw [Int.add_mul, Int.mul_assoc, Int.mul_comm (2 ^ d) E, hED']
    rw [hX] at hH
    have hX0 : 0 ≤ h' * E := Int.mul_nonneg hh'0 (by omega)
    have hX1 : h' * E < 170141183460469231731687303715884105728 := by
      have := Int.mul_lt_mul_of_pos_right hh'1 hE
      rw [Int.mul_comm (2 ^ d) E, hED'] at this
      exact this
    have hX2 : h' * (2 * E) = 2 * (h' * E) := by rw [Int.mul_left_comm]
    have hED2 : 2 * E * 2 ^ d = 340282366920938463463374607431768211456 := by rw [Int.mul_assoc]; omega
    generalize hXX : h' * E = X at *
    have ht' : hi / 9223372036854775808 = t := by rcases ht with rfl | rfl <;> omega
    have hSS : (S * (2 * 2 ^ d)) + (t * 2 ^ d + h') = (2 * S + t) * 2 ^ d + h' := by
      rw [Int.add_mul, Int.mul_left_comm, Int.mul_assoc]; omega
    rw [pow_succ_int, hSS]
    have hQ2 : (2 * (q1 * 18446744073709551616 + q0)) * c = 2 * ((q1 * 18446744073709551616 + q0) * c) := Int.mul_assoc _ _ _
    have hQ3 : (2 * (q1 * 18446744073709551616 + q0) + 1) * c = 2 * ((q1 * 18446744073709551616 + q0) * c) + c := by rw [Int.add_mul, Int.mul_assoc]; omega
    simp only [r01_divide.l0]
    rw [if_pos (by omega), if_neg (by omega), ht', shl_or r t (by omega) (by omega) (by omega), shl_or hi (lo / 9223372036854775808) a1 a2 (by omega), shl_0 lo,
      shl_or q1 (q0 / 9223372036854775808) a5 a6 (by omega), shl_or q0 1 a7 a8 (by omega), shl_0 q0, hw]
    by_cases hge : (r % 9223372036854775808) * 2 + t ≥ c
    · rw [if_pos hge, IntKind.wrap_u64]
      have hr : ((r % 9223372036854775808) * 2 + t - c) % 18446744073709551616 = 2 * r + t - c := by omega
      rw [hr]
      have eq1 : (q1 % 9223372036854775808 * 2 + q0 / 9223372036854775808) * 18446744073709551616 + (q0 % 9223372036854775808 * 2 + 1) = 2 * (q1 * 18446744073709551616 + q0) + 1 := by omega
      exact ih k _ _ _ _ _ _ h' (2 * E) (2 * S + t) (by omega) (by omega) (by omega) (by omega) (by omega) (by omega) (by omega) (by omega) (by omega) (by omega) (by omega) (by omega) (by omega) (by omega)
        hED2 (by rw [hX2]; omega) hh'0 hh'1 (by rw [eq1]; omega) (by rw [eq1, hQ3]; omega)
    · rw [if_neg hge]
      have hr : (r % 9223372036854775808) * 2 + t = 2 * r + t := by omega
      rw [hr]
      have eq1 : (q1 % 9223372036854775808 * 2 + q0 / 9223372036854775808) * 18446744073709551616 + (q0 % 9223372036854775808 * 2) = 2 * (q1 * 18446744073709551616 + q0) := by omega
      exact ih k _ _ _ _ _ _ h' (2 * E) (2 * S + t) (by omega) (by omega) (by omega) (by omega) (by omega) (by omega) (by omega) (by omega) (by omega) (by omega) (by omega) (by omega) (by omega) (by omega)
        hED2 (by rw [hX2]; omega) hh'0 hh'1 (by rw [eq1]; omega) (by rw [eq1, hQ2]; omega)

theorem divide_small (k : Nat) (lo c : Int) (hc0 : 0 < c) (hc : c < 9223372036854775808) (h0 : 0 ≤ lo) (h1 : lo < 18446744073709551616) (hk : 128 < k) :
    r01_divide.f k 0 lo c = some (0, lo / c, lo % c) := by
  obtain ⟨p1, p0, t, h, b1, b2, b3, b4, b5, b6⟩ := divide_l0 c hc0 hc 128 k 0 lo 0 0 0 0 lo 1 0 (by omega) (by omega) h0 h1 (by omega) (by omega) (by omega) (by omega) (by omega) hc0 (by omega) (by omega) hk (by omega) (by decide) (by omega) h0 (Int.lt_trans h1 (by decide)) (by omega) (by omega)
  unfold r01_divide.f
  rw [h]
  rw [Int.zero_mul, Int.zero_add] at b6
  have hq : (p1 * 18446744073709551616 + p0) = lo / c := by
    generalize (p1 * 18446744073709551616 + p0) = Q at b6 ⊢
    rw [← b6, Int.add_comm (Q * c), Int.add_mul_ediv_right _ _ (by omega), Int.ediv_eq_zero_of_lt b4 b5, Int.zero_add]
  have ht : t = lo % c := by
    have := Int.emod_add_mul_ediv lo c
    rw [← hq, Int.mul_comm] at this
    omega
  have hle : lo / c ≤ lo := Int.ediv_le_self _ h0
  have h0' : 0 ≤ lo / c := Int.ediv_nonneg h0 (by omega)
  rw [← ht, ← hq]
  have : p1 = 0 := by omega
  subst this
  simp

theorem size_eq (a : Int) (h0 : -9223372036854775808 ≤ a) (h1 : a ≤ 9223372036854775807) : r01_size.f a = some (if a < 0 then -a else a) := by
  unfold r01_size.f wrap64
  simp only [IntKind.wrap_u64]
  split
  · congr 1; omega
  · congr 1; omega

theorem two_halves (h a1 a0 b1 b0 : Int) : (a1 * h + a0) * (b1 * h + b0) = a1 * b1 * (h * h) + (a1 * b0 + a0 * b1) * h + a0 * b0 := by
  simp only [Int.add_mul, Int.mul_add]
  ac_rfl

theorem product_eq (a b : Int) (h0 : 0 ≤ a) (h1 : a < 18446744073709551616) (h2 : 0 ≤ b) (h3 : b < 18446744073709551616) :
    r01_product.f a b = some (a * b / 18446744073709551616, a * b % 18446744073709551616) := by
  have ha : a = a / 4294967296 * 4294967296 + a % 4294967296 := by omega
  have hb : b = b / 4294967296 * 4294967296 + b % 4294967296 := by omega
  have e1 : a.tdiv 4294967296 = a / 4294967296 := Int.tdiv_eq_ediv_of_nonneg h0
  have e2 : b.tdiv 4294967296 = b / 4294967296 := Int.tdiv_eq_ediv_of_nonneg h2
  have e3 : a.tmod 4294967296 = a % 4294967296 := Int.tmod_eq_emod_of_nonneg h0
  have e4 : b.tmod 4294967296 = b % 4294967296 := Int.tmod_eq_emod_of_nonneg h2
  have p1 : 0 ≤ a / 4294967296 ∧ a / 4294967296 < 4294967296 := by omega
  have p2 : 0 ≤ a % 4294967296 ∧ a % 4294967296 < 4294967296 := by omega
  have p3 : 0 ≤ b / 4294967296 ∧ b / 4294967296 < 4294967296 := by omega
  have p4 : 0 ≤ b % 4294967296 ∧ b % 4294967296 < 4294967296 := by omega
  unfold r01_product.f
  rw [e1, e2, e3, e4]
  simp only [IntKind.wrap_u64]
  have wa1 : a / 4294967296 % 18446744073709551616 = a / 4294967296 := by omega
  have wb1 : b / 4294967296 % 18446744073709551616 = b / 4294967296 := by omega
  rw [wa1, wb1]
  have hab : a * b = (a / 4294967296) * (b / 4294967296) * 18446744073709551616 + ((a / 4294967296) * (b % 4294967296) + (a % 4294967296) * (b / 4294967296)) * 4294967296 + (a % 4294967296) * (b % 4294967296) := by
    have := two_halves 4294967296 (a / 4294967296) (a % 4294967296) (b / 4294967296) (b % 4294967296)
    rw [← ha, ← hb] at this
    exact this
  generalize a / 4294967296 = a1 at *
  generalize a % 4294967296 = a0 at *
  generalize b / 4294967296 = b1 at *
  generalize b % 4294967296 = b0 at *
  have q : ∀ x y : Int, 0 ≤ x ∧ x < 4294967296 → 0 ≤ y ∧ y < 4294967296 → 0 ≤ x * y ∧ x * y ≤ 18446744065119617025 := by
    intro x y hx hy
    have l1 : x * y ≤ 4294967295 * y := Int.mul_le_mul_of_nonneg_right (by omega) hy.1
    have l2 : 0 ≤ x * y := Int.mul_nonneg hx.1 hy.1
    omega
  have q1 := q a1 b1 p1 p3
  have q2 := q a1 b0 p1 p4
  have q3 := q a0 b1 p2 p3
  have q4 := q a0 b0 p2 p4
  rw [hab]
  generalize a1 * b1 = x11 at *
  generalize a1 * b0 = x10 at *
  generalize a0 * b1 = x01 at *
  generalize a0 * b0 = x00 at *
  clear hab ha hb e1 e2 e3 e4 q wa1 wb1
  have w00 : x00 % 18446744073709551616 = x00 := by omega
  have w01 : x01 % 18446744073709551616 = x01 := by omega
  have w10 : x10 % 18446744073709551616 = x10 := by omega
  have w11 : x11 % 18446744073709551616 = x11 := by omega
  simp only [w00, w01, w10, w11]
  have d1 : x00.tdiv 4294967296 = x00 / 4294967296 := Int.tdiv_eq_ediv_of_nonneg q4.1
  have d2 : x00.tmod 4294967296 = x00 % 4294967296 := Int.tmod_eq_emod_of_nonneg q4.1
  have w1 : x00 / 4294967296 % 18446744073709551616 = x00 / 4294967296 := by omega
  rw [d1, d2, w1]
  have w2 : (x10 + x00 / 4294967296) % 18446744073709551616 = x10 + x00 / 4294967296 := by omega
  have d3 : (x10 + x00 / 4294967296).tdiv 4294967296 = (x10 + x00 / 4294967296) / 4294967296 := Int.tdiv_eq_ediv_of_nonneg (by omega)
  have d4 : (x10 + x00 / 4294967296).tmod 4294967296 = (x10 + x00 / 4294967296) % 4294967296 := Int.tmod_eq_emod_of_nonneg (by omega)
  rw [w2, d3, d4]
  have w3 : (x01 + (x10 + x00 / 4294967296) % 4294967296) % 18446744073709551616 = x01 + (x10 + x00 / 4294967296) % 4294967296 := by omega
  have d5 : (x01 + (x10 + x00 / 4294967296) % 4294967296).tdiv 4294967296 = (x01 + (x10 + x00 / 4294967296) % 4294967296) / 4294967296 := Int.tdiv_eq_ediv_of_nonneg (by omega)
  have d6 : (x01 + (x10 + x00 / 4294967296) % 4294967296).tmod 4294967296 = (x01 + (x10 + x00 / 4294967296) % 4294967296) % 4294967296 := Int.tmod_eq_emod_of_nonneg (by omega)
  rw [w3, d5, d6]
  clear d1 d2 d3 d4 d5 d6 w1 w2 w3 w00 w01 w10 w11
  congr 1
  refine Prod.ext ?_ ?_
  · show _ = _
    dsimp only
    omega
  · dsimp only
    omega
theorem signed_small (k : Nat) (neg : Bool) (lo : Int) (h0 : 0 ≤ lo) (h1 : lo < 9223372036854775808 ∨ lo = 9223372036854775808 ∧ neg = true) (hk : 0 < k) :
    r01_signed.f k neg 0 lo = some (if neg = true then -lo else lo, true) := by
  obtain ⟨k, rfl⟩ : ∃ m, k = m + 1 := ⟨k - 1, by omega⟩
  unfold r01_signed.f
  rw [if_neg (by omega), if_neg (by omega)]
  have w0 : wrap64 lo = if lo = 9223372036854775808 then -9223372036854775808 else lo := by unfold wrap64; split <;> omega
  have key : r01_signed.j0 (k + 1) neg lo false = some (if neg = true then -lo else lo, true) := by
    simp only [r01_signed.j0]
    rw [if_neg (by decide)]
    cases neg with
    | true =>
      rw [if_pos rfl, if_pos rfl]
      by_cases hz : lo = 0
      · rw [if_pos hz]; subst hz; rfl
      · rw [if_neg hz, IntKind.wrap_u64]
        congr 2
        unfold wrap64
        omega
    | false =>
      rw [if_neg (by decide), if_neg (by decide)]
      have : wrap64 lo = lo := by
        rcases h1 with h1 | ⟨_, h1⟩
        · unfold wrap64; omega
        · cases h1
      rw [this]
  by_cases he : lo = 9223372036854775808
  · rw [if_pos he]
    rcases h1 with h1 | ⟨_, rfl⟩
    · omega
    · exact key
  · rw [if_neg he]
    exact key
theorem muldiv_eq (k : Nat) (hk : 200 ≤ k) (s : Int) (h : -8000000000 ≤ s ∧ s ≤ 8000000000) : r01_MulDiv.f k s 1 86400 = some (s / 86400, true) := by
  obtain ⟨k, rfl⟩ : ∃ j, k = j + 1 := ⟨k - 1, by omega⟩
  unfold r01_MulDiv.f
  rw [if_neg (by decide), size_eq s (by omega) (by omega), Option.bind_some, size_eq 1 (by decide) (by decide), Option.bind_some]
  rw [if_neg (show ¬ ((1 : Int) < 0) by decide)]
  by_cases c : s < 0
  · rw [if_pos c, product_eq (-s) 1 (by omega) (by omega) (by decide) (by decide), Option.bind_some, size_eq 86400 (by decide) (by decide), Option.bind_some, if_neg (show ¬ ((86400 : Int) < 0) by decide)]
    simp only
    rw [show -s * 1 / 18446744073709551616 = 0 by omega, show -s * 1 % 18446744073709551616 = -s by omega, divide_small (k + 1) (-s) 86400 (by decide) (by decide) (by omega) (by omega) (by omega), Option.bind_some]
    have hn : ((decide (s < 0) != decide ((1 : Int) < 0)) != decide ((86400 : Int) < 0)) = true := by rw [decide_eq_true c]; rfl
    rw [hn, if_pos rfl]
    simp only [r01_MulDiv.j0]
    by_cases cr : -s % 86400 > 0
    · have hw : IntKind.u64.wrap (-s / 86400 + 1) = -s / 86400 + 1 := by rw [IntKind.wrap_u64]; omega
      rw [if_pos (decide_eq_true cr), hw, if_neg (by omega), signed_small k true (-s / 86400 + 1) (by omega) (by omega) (by omega), Option.bind_some]
      rw [if_pos rfl]
      congr 2; omega
    · rw [if_neg (by rw [decide_eq_false cr]; decide), signed_small k true (-s / 86400) (by omega) (by omega) (by omega), Option.bind_some, if_pos rfl]
      congr 2; omega
  · rw [if_neg c, product_eq s 1 (by omega) (by omega) (by decide) (by decide), Option.bind_some, size_eq 86400 (by decide) (by decide), Option.bind_some, if_neg (show ¬ ((86400 : Int) < 0) by decide)]
    simp only
    rw [show s * 1 / 18446744073709551616 = 0 by omega, show s * 1 % 18446744073709551616 = s by omega, divide_small (k + 1) s 86400 (by decide) (by decide) (by omega) (by omega) (by omega), Option.bind_some]
    have hn : ((decide (s < 0) != decide ((1 : Int) < 0)) != decide ((86400 : Int) < 0)) = false := by rw [decide_eq_false c]; rfl
    rw [hn, if_neg (by decide)]
    simp only [r01_MulDiv.j0]
    rw [if_neg (by decide), signed_small k false (s / 86400) (by omega) (by omega) (by omega), Option.bind_some, if_neg (by decide)]
theorem day_ref (k : Nat) (hk : 200 ≤ k) (s : Int) (h : -8000000000 ≤ s ∧ s ≤ 8000000000) : r05_dayOf.f k s = some (s / 86400) := by
  unfold r05_dayOf.f r01_Floor.f
  rw [muldiv_eq k hk s h]
  rfl
end Go.Proofs.YtipbkcilpnlgnaaDoor.M
