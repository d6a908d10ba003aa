/-
  What the sums and the products of the program and of the reference come to: plain reckoning.
-/
import Derived.Test.YtdhoidhbhkgfgaaDoorExtB
import Derived.Test.YtdhoidhbhkgfgaaDoorPb
import Derived.Laws.BitsAllLaws
import Derived.Laws.Bits64
namespace Go.Proofs.YtdhoidhbhkgfgaaDoor.M
open Go.RowKit Go.Proofs.YtdhoidhbhkgfgaaDoorW.PrintWords Go.Proofs.YtdhoidhbhkgfgaaDoorW.PrintLast
set_option linter.unusedVariables false
set_option linter.unusedSimpArgs false

/-- A whole result with a sign, or a refusal. -/
theorem signed_eq (k : Nat) (neg : Bool) (hi lo : Int) (hh : 0 ≤ hi) (h0 : 0 ≤ lo) (h1 : lo < 18446744073709551616) (hk : 0 < k) :
    timesyncref01_signed.f k neg hi lo = some (if hi > 0 ∨ lo > 9223372036854775808 ∨ lo = 9223372036854775808 ∧ neg = false then (0, false) else (if neg = true then -lo else lo, true)) := by
  by_cases c : hi > 0 ∨ lo > 9223372036854775808 ∨ lo = 9223372036854775808 ∧ neg = false
  · rw [if_pos c]
    obtain ⟨k, rfl⟩ : ∃ m, k = m + 1 := ⟨k - 1, by omega⟩
    unfold timesyncref01_signed.f
    by_cases c1 : hi > 0
    · rw [if_pos c1]; rfl
    · rw [if_neg c1]
      by_cases c2 : lo > 9223372036854775808
      · rw [if_pos c2]; rfl
      · rw [if_neg c2]
        obtain ⟨c3, c4⟩ : lo = 9223372036854775808 ∧ neg = false := by rcases c with c | c | c; exact absurd c c1; exact absurd c c2; exact c
        rw [if_pos c3, c4]; rfl
  · rw [if_neg c]
    have e : hi = 0 := by omega
    subst e
    refine signed_small k neg lo h0 ?_ hk
    cases neg <;> simp at c ⊢ <;> omega

/-- What the product of two numbers comes to in either: the number, or a refusal. -/
def mulOut (a b : Int) : Int × Bool := if -9223372036854775808 ≤ a * b ∧ a * b ≤ 9223372036854775807 then (a * b, true) else (0, false)

theorem ref_mul (k : Nat) (a b : Int) (h0 : -9223372036854775808 ≤ a) (h1 : a ≤ 9223372036854775807) (hb : 0 < b) (hb1 : b ≤ 9223372036854775807) (hk : 0 < k) :
    timesyncref01_Mul.f k a b = some (mulOut a b) := by
  unfold timesyncref01_Mul.f
  rw [size_eq a h0 h1, Option.bind_some, size_eq b (by omega) hb1, Option.bind_some, if_neg (by omega : ¬ b < 0)]
  rw [product_eq _ _ (by split <;> omega) (by split <;> omega) (by omega) (by omega), Option.bind_some]
  have e : (if a < 0 then -a else a) * b = if a < 0 then -(a * b) else a * b := by split; exact Int.neg_mul _ _; rfl
  have hp : 0 ≤ (if a < 0 then -a else a) * b := Int.mul_nonneg (by split <;> omega) (by omega)
  rw [e] at hp ⊢
  unfold mulOut
  generalize hz : a * b = p at hp ⊢
  have hs : a < 0 → p < 0 := fun h => by rw [← hz]; exact Int.mul_neg_of_neg_of_pos h hb
  have hs1 : ¬ a < 0 → 0 ≤ p := fun h => by rw [← hz]; exact Int.mul_nonneg (by omega) (by omega)
  have hd : decide (b < 0) = false := by simp; omega
  rw [signed_eq _ _ _ _ (by omega) (by omega) (by omega) hk, Option.bind_some, hd]
  by_cases ha : a < 0
  · have := hs ha
    simp only [ha, if_true, decide_true]
    have hx : (true != false) = true := rfl
    simp only [hx]
    by_cases c : -9223372036854775808 ≤ p ∧ p ≤ 9223372036854775807
    · rw [if_pos c, if_neg (by simp; omega)]; simp; omega
    · rw [if_neg c, if_pos (by omega)]
  · have := hs1 ha
    simp only [ha, if_false, decide_false]
    have hx : (false != false) = false := rfl
    simp only [hx, and_true]
    by_cases c : -9223372036854775808 ≤ p ∧ p ≤ 9223372036854775807
    · rw [if_pos c, if_neg (by omega)]; simp; omega
    · rw [if_neg c, if_pos (by omega)]

theorem mask32 (x : Int) (h0 : 0 ≤ x) (h1 : x < 18446744073709551616) : Go.bits .and .u64 x 4294967295 = x % 4294967296 := by
  rw [u64_and _ _ h0 h1 (by decide) (by decide), show ((4294967295 : Int)).toNat = 4294967295 from rfl, Go.nat_mask32]
  omega

theorem mul64_eq (a : Int) (h0 : 0 ≤ a) (h1 : a ≤ 9223372036854775808) :
    bits_Mul64.f a 65536 = some (a * 65536 / 18446744073709551616, a * 65536 % 18446744073709551616) := by
  unfold bits_Mul64.f
  simp only [IntKind.wrap_u64]
  rw [mask32 65536 (by decide) (by decide), mask32 a h0 (by omega), mask32 _ (by omega) (by omega)]
  congr 1
  refine Prod.ext ?_ ?_ <;> simp only <;> omega

theorem fsize_eq (a : Int) (h0 : -9223372036854775808 ≤ a) (h1 : a ≤ 9223372036854775807) : fixed_size.f a = some (if a < 0 then -a else a) := by
  unfold fixed_size.f
  simp only [IntKind.wrap_u64]
  split <;> congr 1 <;> omega

theorem fsigned_eq (lo : Int) (neg : Bool) (h0 : 0 ≤ lo) (h1 : lo < 18446744073709551616) :
    fixed_signed.f lo neg = some (if lo > 9223372036854775808 ∨ lo = 9223372036854775808 ∧ neg = false then (0, false) else (if neg = true then -lo else lo, true)) := by
  unfold fixed_signed.f wrap64
  simp only [IntKind.wrap_u64]
  cases neg
  · simp only [if_false, Bool.false_eq_true, and_true]
    by_cases c : lo ≥ 9223372036854775808
    · rw [if_pos c, if_pos (by omega)]
    · rw [if_neg c, if_neg (by omega)]
      congr 2; omega
  · simp only [if_true, Bool.true_eq_false, and_false, or_false]
    by_cases c : lo > 9223372036854775808
    · rw [if_pos c, if_pos c]
    · rw [if_neg c, if_neg c]
      congr 2; omega

theorem fixed_mul (a : Int) (h0 : -9223372036854775808 ≤ a) (h1 : a ≤ 9223372036854775807) : fixed_Mul.f a 65536 = some (mulOut a 65536) := by
  unfold fixed_Mul.f
  rw [fsize_eq a h0 h1, Option.bind_some, fsize_eq 65536 (by decide) (by decide), Option.bind_some, if_neg (by decide : ¬ (65536 : Int) < 0)]
  rw [mul64_eq _ (by split <;> omega) (by split <;> omega), Option.bind_some]
  simp only
  rw [fsigned_eq _ _ (by omega) (by omega), Option.bind_some]
  unfold mulOut
  have hd : decide ((65536 : Int) < 0) = false := rfl
  rw [hd]
  by_cases ha : a < 0
  · simp only [ha, if_true, decide_true]
    have hx : (true != false) = true := rfl
    simp only [hx, if_true, Bool.true_eq_false, and_false, or_false]
    by_cases c : -9223372036854775808 ≤ a * 65536 ∧ a * 65536 ≤ 9223372036854775807
    · rw [if_pos c, if_pos (by omega), if_neg (by omega)]; simp; omega
    · rw [if_neg c]
      by_cases c1 : -a * 65536 / 18446744073709551616 = 0
      · rw [if_pos c1, if_pos (by omega)]
      · rw [if_neg c1]
  · simp only [ha, if_false, decide_false]
    have hx : (false != false) = false := rfl
    simp only [hx, and_true]
    by_cases c : -9223372036854775808 ≤ a * 65536 ∧ a * 65536 ≤ 9223372036854775807
    · rw [if_pos c, if_pos (by omega), if_neg (by omega)]; simp; omega
    · rw [if_neg c]
      by_cases c1 : a * 65536 / 18446744073709551616 = 0
      · rw [if_pos c1, if_pos (by omega)]
      · rw [if_neg c1]

/-- The correction of a number of nanoseconds, in either. -/
theorem corr_eq (a : Int) (h0 : -9223372036854775808 ≤ a) (h1 : a ≤ 9223372036854775807) :
    ptime_Corr.f a = some (if -9223372036854775808 ≤ a * 65536 ∧ a * 65536 ≤ 9223372036854775807 then (a * 65536, 0) else (0, 3)) := by
  unfold ptime_Corr.f
  rw [fixed_mul a h0 h1, Option.bind_some]
  unfold mulOut
  split <;> simp
theorem rcorr_eq (k : Nat) (a : Int) (h0 : -9223372036854775808 ≤ a) (h1 : a ≤ 9223372036854775807) (hk : 0 < k) :
    timesyncref04_Corr.f k a = some (if -9223372036854775808 ≤ a * 65536 ∧ a * 65536 ≤ 9223372036854775807 then (a * 65536, 0) else (0, 3)) := by
  unfold timesyncref04_Corr.f
  rw [ref_mul k a 65536 h0 h1 (by decide) (by decide) hk, Option.bind_some]
  unfold mulOut
  split <;> simp

theorem wrap_neg (x : BitVec 64) : IntKind.i64.wrap x.toNat = x.toInt := by
  have h := x.isLt
  rw [BitVec.toInt_eq_toNat_cond, IntKind.wrap_i64]
  split <;> omega
theorem sign_test (a b s : Int) (h0 : -9223372036854775808 ≤ a) (h1 : a ≤ 9223372036854775807) (h2 : -9223372036854775808 ≤ b) (h3 : b ≤ 9223372036854775807)
    (h4 : -9223372036854775808 ≤ s) (h5 : s ≤ 9223372036854775807) :
    Go.bits .and .i64 (Go.bits .xor .i64 a s) (Go.bits .xor .i64 b s) < 0 ↔ (a < 0 ∧ ¬ s < 0 ∨ ¬ a < 0 ∧ s < 0) ∧ (b < 0 ∧ ¬ s < 0 ∨ ¬ b < 0 ∧ s < 0) := by
  have e1 : ∀ x y : Int, Go.bits .xor .i64 x y = (BitVec.ofInt 64 x ^^^ BitVec.ofInt 64 y).toInt := fun x y => wrap_neg _
  have e2 : ∀ x y : Int, Go.bits .and .i64 x y = (BitVec.ofInt 64 x &&& BitVec.ofInt 64 y).toInt := fun x y => wrap_neg _
  have e3 : ∀ x : Int, -9223372036854775808 ≤ x → x ≤ 9223372036854775807 → ((BitVec.ofInt 64 x).msb = true ↔ x < 0) := by
    intro x h0 h1
    rw [BitVec.msb_eq_toInt, BitVec.toInt_ofInt, decide_eq_true_iff, Int.bmod_def]
    omega
  have e4 : ∀ x : BitVec 64, x.toInt < 0 ↔ x.msb = true := by intro x; rw [BitVec.msb_eq_toInt, decide_eq_true_iff]
  rw [e2, e4, BitVec.msb_and, e1, e1, BitVec.ofInt_toInt, BitVec.ofInt_toInt, BitVec.msb_xor, BitVec.msb_xor, Bool.and_eq_true]
  have f1 := e3 a h0 h1
  have f2 := e3 b h2 h3
  have f3 := e3 s h4 h5
  rw [← f1, ← f2, ← f3]
  cases (BitVec.ofInt 64 a).msb <;> cases (BitVec.ofInt 64 b).msb <;> cases (BitVec.ofInt 64 s).msb <;> simp

/-- The sum of two corrections, in either. -/
def sumOut (a b : Int) : Int × Bool := if a + b > 9223372036854775807 then (9223372036854775807, false) else if a + b < -9223372036854775808 then (-9223372036854775808, false) else (a + b, true)
theorem add_eq (a b : Int) (h0 : -9223372036854775808 ≤ a) (h1 : a ≤ 9223372036854775807) (h2 : -9223372036854775808 ≤ b) (h3 : b ≤ 9223372036854775807) :
    ptime_AddCorr.f a b = some (sumOut a b) := by
  unfold ptime_AddCorr.f fixed_Add.f
  have hw : -9223372036854775808 ≤ wrap64 (a + b) ∧ wrap64 (a + b) ≤ 9223372036854775807 := by unfold wrap64; omega
  simp only [sign_test a b _ h0 h1 h2 h3 hw.1 hw.2]
  unfold wrap64 sumOut
  by_cases c : a + b > 9223372036854775807
  · rw [if_pos c, if_pos (by omega), Option.bind_some]; simp; omega
  · rw [if_neg c]
    by_cases c1 : a + b < -9223372036854775808
    · rw [if_pos c1, if_pos (by omega), Option.bind_some]; simp; omega
    · rw [if_neg c1, if_neg (by omega), Option.bind_some]; simp; omega
theorem rsum_eq (a b : Int) (h0 : -9223372036854775808 ≤ a) (h1 : a ≤ 9223372036854775807) (h2 : -9223372036854775808 ≤ b) (h3 : b ≤ 9223372036854775807) :
    timesyncref01_Add.f a b = some (if -9223372036854775808 ≤ a + b ∧ a + b ≤ 9223372036854775807 then (a + b, true) else (0, false)) := by
  unfold timesyncref01_Add.f wrap64
  repeat' split
  all_goals first
    | (exfalso; omega)
    | rfl
    | (congr 2; omega)
theorem radd_eq (a b : Int) (h0 : -9223372036854775808 ≤ a) (h1 : a ≤ 9223372036854775807) (h2 : -9223372036854775808 ≤ b) (h3 : b ≤ 9223372036854775807) :
    timesyncref04_AddCorr.f a b = some (sumOut a b) := by
  unfold timesyncref04_AddCorr.f
  rw [rsum_eq a b h0 h1 h2 h3, Option.bind_some]
  unfold sumOut
  by_cases c : -9223372036854775808 ≤ a + b ∧ a + b ≤ 9223372036854775807
  · simp only [if_pos c]
    rw [if_neg (by omega : ¬ a + b > 9223372036854775807), if_neg (by omega : ¬ a + b < -9223372036854775808)]; rfl
  · simp only [if_neg c, Bool.false_eq_true, if_false]
    repeat' split
    all_goals first
      | rfl
      | (exfalso; omega)

theorem rnanos_eq (a : Int) (h0 : -9223372036854775808 ≤ a) (h1 : a ≤ 9223372036854775807) : timesyncref04_Nanos.f a = some (a / 65536) := by
  unfold timesyncref04_Nanos.f timesyncref01_Floor.f timesyncref01_MulDiv.f
  rw [if_pos ⟨rfl, by decide, by decide, h0, h1⟩]
  rfl

theorem wf64 {a : Int} (h : (Lit.int .i64 a).wf = true) : -9223372036854775808 ≤ a ∧ a ≤ 9223372036854775807 := by
  simp [Lit.wf, IntKind.min, IntKind.max, IntKind.bits, IntKind.signed] at h
  omega
theorem awake_at (k : Nat) (hk : 10 ≤ k) : timesynclaw04_awake.f k = some true :=
  at_rounds timesynclaw04_awake.mono hk awake_true
end Go.Proofs.YtdhoidhbhkgfgaaDoor.M
