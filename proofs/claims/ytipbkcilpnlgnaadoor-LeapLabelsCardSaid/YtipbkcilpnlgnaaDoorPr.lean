/-
  The reference's calendar and its Check, plain: they tell the same as the program's.
-/
import Derived.Test.YtipbkcilpnlgnaaDoorPm
import Derived.Test.YtipbkcilpnlgnaaDoorPd
namespace Go.Proofs.YtipbkcilpnlgnaaDoor.M
open Go.RowKit Go.Proofs.YtipbkcilpnlgnaaDoorG Go.Proofs.YtipbkcilpnlgnaaDoorW.PA Go.Proofs.YtipbkcilpnlgnaaDoorW.PB Go.Proofs.YtipbkcilpnlgnaaDoorW.PC
set_option linter.unusedVariables false
set_option linter.unusedSimpArgs false
/-- The first of January. -/
def jday (y : Int) : Int := mday (y - 1) 10
def yd (y : Int) : Int := if y % 4 = 0 ∧ (y % 100 ≠ 0 ∨ y % 400 = 0) then 366 else 365
theorem jday_next (y : Int) : jday (y + 1) = jday y + yd y := by
  unfold jday mday yd
  split <;> omega
theorem leap_eq (y : Int) (h : 0 ≤ y) : r05_isLeap.f y = some (decide (y % 4 = 0 ∧ (y % 100 ≠ 0 ∨ y % 400 = 0))) := by
  unfold r05_isLeap.f
  rw [Int.tmod_eq_emod_of_nonneg h, Int.tmod_eq_emod_of_nonneg h, Int.tmod_eq_emod_of_nonneg h]
  by_cases c1 : y % 4 = 0
  · rw [if_pos c1]
    by_cases c2 : y % 100 = 0
    · rw [if_pos c2]
      by_cases c3 : y % 400 = 0
      · rw [beq_iff_eq.mpr c3, decide_eq_true ⟨c1, Or.inr c3⟩]
      · rw [beq_eq_false_iff_ne.mpr c3, decide_eq_false (by omega)]
    · rw [if_neg c2, decide_eq_true ⟨c1, Or.inl c2⟩]
  · rw [if_neg c1, decide_eq_false (by omega)]
theorem yd_eq (y : Int) (h : 0 ≤ y) : r05_yearDays.f y = some (yd y) := by
  unfold r05_yearDays.f yd
  rw [leap_eq y h, Option.bind_some]
  by_cases c : y % 4 = 0 ∧ (y % 100 ≠ 0 ∨ y % 400 = 0)
  · rw [decide_eq_true c, if_pos rfl, if_pos c]
  · rw [decide_eq_false c, if_neg (by decide), if_neg c]
/-- The first day of a month, by the year and month of the civil time. -/
def mst (y m : Int) : Int := mday (secY y m) (secM m)
def mdl (y m : Int) : Int := if m = 4 ∨ m = 6 ∨ m = 9 ∨ m = 11 then 30 else if m = 2 then (if y % 4 = 0 ∧ (y % 100 ≠ 0 ∨ y % 400 = 0) then 29 else 28) else 31
theorem mdl_eq (k : Nat) (hk : 2 ≤ k) (y m : Int) (h : 0 ≤ y) (hm : 1 ≤ m ∧ m ≤ 12) : r05_MonthDays.f k y m = some (mdl y m) := by
  obtain ⟨k, rfl⟩ : ∃ j, k = j + 2 := ⟨k - 2, by omega⟩
  unfold r05_MonthDays.f mdl
  have hc : m = 1 ∨ m = 2 ∨ m = 3 ∨ m = 4 ∨ m = 5 ∨ m = 6 ∨ m = 7 ∨ m = 8 ∨ m = 9 ∨ m = 10 ∨ m = 11 ∨ m = 12 := by omega
  rcases hc with rfl | rfl | rfl | rfl | rfl | rfl | rfl | rfl | rfl | rfl | rfl | rfl <;> simp only [r05_MonthDays.j0, r05_MonthDays.j1] <;> first
    | rfl
    | (rw [leap_eq y h]
       by_cases c : y % 4 = 0 ∧ (y % 100 ≠ 0 ∨ y % 400 = 0)
       · simp [c]
       · simp [c])
theorem mst_next (y m : Int) (hm : 1 ≤ m ∧ m ≤ 11) : mst y (m + 1) = mst y m + mdl y m := by
  have hc : m = 1 ∨ m = 2 ∨ m = 3 ∨ m = 4 ∨ m = 5 ∨ m = 6 ∨ m = 7 ∨ m = 8 ∨ m = 9 ∨ m = 10 ∨ m = 11 := by omega
  unfold mst mday secY secM mdl
  rcases hc with rfl | rfl | rfl | rfl | rfl | rfl | rfl | rfl | rfl | rfl | rfl <;> simp <;> first | omega | (split <;> omega)
theorem mst_last (y : Int) : mst y 12 + 31 = jday (y + 1) := by
  unfold mst jday mday secY secM
  simp
  omega
theorem mst_first (y : Int) : mst y 1 = jday y := rfl
/-- A second's month is told by the days between which it lies. -/
theorem month_between (s Y M : Int) (hM : 0 ≤ M ∧ M ≤ 11) (h1 : mday Y M ≤ ofD s) (h2 : ofD s < mday (nextY Y M) (nextM M)) : ofYY s = Y ∧ ofM s = M := by
  have hMb := ofM_b s
  have hNM := nextM_b M hM
  have hin := (day_in s).1
  have g1 : ¬ (ofYY s < Y ∨ (ofYY s = Y ∧ ofM s < M)) := fun c => by have := day_before s Y M hM c; omega
  have g2 : ¬ (Y < ofYY s ∨ (Y = ofYY s ∧ M < ofM s)) := fun c => by
    have := mday_le (nextY Y M) (nextM M) (ofYY s) (ofM s) hNM hMb (by unfold nextY nextM; split <;> omega)
    omega
  omega
theorem l2_eq (k0 : Nat) (hk0 : 100 ≤ k0) (y h m s n : Int) (hy : 1 ≤ y ∧ y ≤ 5000) : ∀ (j : Nat) (k : Nat) (d mo : Int), mo + j = 12 → k0 + j + 1 ≤ k → 1 ≤ mo → 0 ≤ d → d + mst y mo < jday (y + 1) →
    ∃ d' mo', r05_Of.l2 k d y mo 0 h m s n = some (y, mo', d' + 1, h, m, s, n, 0) ∧ 1 ≤ mo' ∧ mo' ≤ 12 ∧ 0 ≤ d' ∧ d' + mst y mo' = d + mst y mo ∧ d' < mdl y mo'
  | j, k, d, mo, hj, hk, hmo, hd, hlt => by
    obtain ⟨k, rfl⟩ : ∃ i, k = i + 1 := ⟨k - 1, by omega⟩
    have hdb : d ≤ 400 := by
      have := mday_le (y - 1) 10 (secY y mo) (secM mo) (by decide) (by unfold secM; split <;> omega) (by unfold secY secM; split <;> omega)
      have e := jday_next y
      unfold yd at e
      unfold mst at hlt
      unfold jday at e hlt
      split at e <;> omega
    have hml : 28 ≤ mdl y mo ∧ mdl y mo ≤ 31 := by unfold mdl; split; omega; split; (split <;> omega); omega
    simp only [r05_Of.l2]
    rw [mdl_eq k (by omega) y mo (by omega) ⟨hmo, by omega⟩, Option.bind_some]
    by_cases c : d ≥ mdl y mo
    · rw [if_pos c, Option.bind_some]
      cases j with
      | zero =>
        exfalso
        have e : mo = 12 := by omega
        subst e
        have h1 := mst_last y
        have h2 : mdl y 12 = 31 := by unfold mdl; simp
        omega
      | succ j =>
        have hn := mst_next y mo ⟨hmo, by omega⟩
        have w1 : wrap64 (d - mdl y mo) = d - mdl y mo := by unfold wrap64; omega
        have w2 : wrap64 (mo + 1) = mo + 1 := by unfold wrap64; omega
        rw [w1, w2]
        obtain ⟨d', mo', g1, g2, g3, g4, g5, g6⟩ := l2_eq k0 hk0 y h m s n hy j k (d - mdl y mo) (mo + 1) (by omega) (by omega) (by omega) (by omega) (by omega)
        exact ⟨d', mo', g1, g2, g3, g4, by omega, g6⟩
    · rw [if_neg c]
      have w1 : wrap64 (d + 1) = d + 1 := by unfold wrap64; omega
      rw [w1]
      exact ⟨d, mo, rfl, hmo, by omega, hd, rfl, by omega⟩
theorem l1_ref (k0 : Nat) (h m s n : Int) : ∀ (j : Nat) (k : Nat) (d y : Int), d < 365 * j → k0 + j + 1 ≤ k → (1 ≤ y ∧ y + j ≤ 5000) → 0 ≤ d →
    ∃ k' d' y', k0 ≤ k' ∧ r05_Of.l1 k d y 1 0 h m s n = r05_Of.l2 k' d' y' 1 0 h m s n ∧ (1 ≤ y' ∧ y' ≤ 5000) ∧ 0 ≤ d' ∧ d' + jday y' = d + jday y ∧ d' < yd y'
  | 0, k, d, y, hd, hk, hy, h0 => by omega
  | j + 1, k, d, y, hd, hk, hy, h0 => by
    obtain ⟨k, rfl⟩ : ∃ i, k = i + 1 := ⟨k - 1, by omega⟩
    have hyb : 365 ≤ yd y ∧ yd y ≤ 366 := by unfold yd; split <;> omega
    simp only [r05_Of.l1]
    rw [yd_eq y (by omega), Option.bind_some]
    by_cases c : d ≥ yd y
    · have w1 : wrap64 (d - yd y) = d - yd y := by unfold wrap64; omega
      have w2 : wrap64 (y + 1) = y + 1 := by unfold wrap64; omega
      rw [if_pos c, Option.bind_some, w1, w2]
      obtain ⟨k', d', y', g1, g2, g3, g4, g5, g6⟩ := l1_ref k0 h m s n j k (d - yd y) (y + 1) (by omega) (by omega) (by omega) (by omega)
      have := jday_next y
      exact ⟨k', d', y', g1, g2, g3, g4, by omega, g6⟩
    · rw [if_neg c]
      exact ⟨k, d, y, by omega, rfl, by omega, h0, rfl, by omega⟩
theorem l0_ref (k0 : Nat) (h m s n : Int) : ∀ (j : Nat) (k : Nat) (d y : Int), -(365 * j) ≤ d → k0 + j + 1 ≤ k → (1 + j ≤ y ∧ y ≤ 4000) → d ≤ 1000000 →
    ∃ k' d' y', k0 ≤ k' ∧ r05_Of.l0 k d y 1 0 h m s n = r05_Of.l1 k' d' y' 1 0 h m s n ∧ (1 ≤ y' ∧ y' ≤ 4000) ∧ 0 ≤ d' ∧ d' + jday y' = d + jday y ∧ (d' ≤ d ∨ d' ≤ 366)
  | j, k, d, y, hd, hk, hy, hdm => by
    obtain ⟨k, rfl⟩ : ∃ i, k = i + 1 := ⟨k - 1, by omega⟩
    simp only [r05_Of.l0]
    by_cases c : d < 0
    · cases j with
      | zero => omega
      | succ j =>
        have w2 : wrap64 (y - 1) = y - 1 := by unfold wrap64; omega
        have hyb : 365 ≤ yd (y - 1) ∧ yd (y - 1) ≤ 366 := by unfold yd; split <;> omega
        rw [if_pos c, w2, yd_eq (y - 1) (by omega), Option.bind_some]
        have w1 : wrap64 (d + yd (y - 1)) = d + yd (y - 1) := by unfold wrap64; omega
        rw [w1]
        obtain ⟨k', d', y', g1, g2, g3, g4, g5, g6⟩ := l0_ref k0 h m s n j k (d + yd (y - 1)) (y - 1) (by omega) (by omega) (by omega) (by omega)
        have hj := jday_next (y - 1)
        rw [show y - 1 + 1 = y by omega] at hj
        exact ⟨k', d', y', g1, g2, g3, g4, by omega, by omega⟩
    · rw [if_neg c]
      exact ⟨k, d, y, by omega, rfl, by omega, by omega, rfl, Or.inl (Int.le_refl _)⟩
/-- The first second of a second's month. -/
def firstOf (s : Int) : Int := (mday (ofYY s) (ofM s) - 693901) * 86400
theorem yy_range (s : Int) (h : -8000000000 ≤ s ∧ s ≤ 8000000000) : 1601 ≤ ofYY s ∧ ofYY s ≤ 2190 := by
  obtain ⟨h1, h2, h3⟩ := day_in s
  have hD : ofD s = s / 86400 + 693901 := rfl
  have hM := ofM_b s
  have hm : 0 ≤ (153 * ofM s + 2) / 5 ∧ (153 * ofM s + 2) / 5 ≤ 337 := by omega
  unfold mday at h1 h2
  generalize (153 * ofM s + 2) / 5 = a at *
  generalize ofF s = F at *
  generalize ofYY s = Y at *
  omega
theorem md_pos (y m : Int) (hm : 1 ≤ m ∧ m ≤ 12) : 1 ≤ monthDays y m := by
  unfold monthDays
  rw [if_neg (by omega)]
  split
  · decide
  · have hc : m = 1 ∨ m = 2 ∨ m = 3 ∨ m = 4 ∨ m = 5 ∨ m = 6 ∨ m = 7 ∨ m = 8 ∨ m = 9 ∨ m = 10 ∨ m = 11 ∨ m = 12 := by omega
    rcases hc with rfl | rfl | rfl | rfl | rfl | rfl | rfl | rfl | rfl | rfl | rfl | rfl <;> decide
theorem mon_iff (s : Int) (h : -8000000000 ≤ s ∧ s ≤ 8000000000) : mon s 0 = (s, true) ↔ s = firstOf s := by
  constructor
  · intro hm; exact (mon_this s hm).2
  · intro hf
    have hm := month_eq s 0
    have hM := ofM_b s
    have hY := yy_range s h
    have e1 : wrap64 (ofMon s + 0) = ofMon s := by unfold ofMon; split <;> (unfold wrap64; omega)
    have hmo : 1 ≤ ofMon s ∧ ofMon s ≤ 12 := by unfold ofMon; split <;> omega
    have hye : 1600 ≤ ofYear s ∧ ofYear s ≤ 2200 := by unfold ofYear; split <;> omega
    have hmd := md_pos (ofYear s) (ofMon s) hmo
    have hce : civilErr (ofYear s) (ofMon s) 1 0 0 0 0 = 0 := by
      unfold civilErr
      have o1 : outP (ofYear s) 1600 2200 = false := by unfold outP; rw [decide_eq_false (by omega), decide_eq_false (by omega)]; rfl
      have o2 : outP (ofMon s) 1 12 = false := by unfold outP; rw [decide_eq_false (by omega), decide_eq_false (by omega)]; rfl
      have o3 : outP 1 1 (monthDays (ofYear s) (ofMon s)) = false := by unfold outP; rw [decide_eq_false (by omega), decide_eq_false (by omega)]; rfl
      rw [o1, o2, o3]
      decide
    unfold leap_month.f at hm
    rw [of_eq s h, Option.bind_some, if_pos rfl] at hm
    simp only at hm
    rw [e1, if_neg (by omega)] at hm
    unfold civil_Seconds.f at hm
    rw [if_pos hce, sec_mday, show secY (ofYear s) (ofMon s) = ofYY s by unfold secY ofYear ofMon; split <;> split <;> omega, show secM (ofMon s) = ofM s by unfold secM ofMon; split <;> split <;> omega] at hm
    rw [show (mday (ofYY s) (ofM s) - 693901) * 86400 = s from hf.symm, if_neg (by omega), Option.bind_some] at hm
    exact (Option.some.inj hm).symm
theorem begins_eq (k : Nat) (hk : 2000 ≤ k) (s : Int) (h : -8000000000 ≤ s ∧ s ≤ 8000000000) : r6_begins.f k s = some (decide (mon s 0 = (s, true))) := by
  obtain ⟨k, rfl⟩ : ∃ j, k = j + 1 := ⟨k - 1, by omega⟩
  have hD : ofD s = s / 86400 + 693901 := rfl
  have h1900 : jday 1900 = 693901 := by decide
  obtain ⟨k1, d1, y1, a1, a2, a3, a4, a5, a6⟩ := l0_ref 1400 (wrap64 (Int.tdiv (wrap64 (s - wrap64 (s / 86400 * 86400))) 3600)) (Int.tmod (wrap64 (Int.tdiv (wrap64 (s - wrap64 (s / 86400 * 86400))) 60)) 60) (Int.tmod (wrap64 (s - wrap64 (s / 86400 * 86400))) 60) 0 300 k (s / 86400) 1900 (by omega) (by omega) (by omega) (by omega)
  obtain ⟨k2, d2, y2, b1, b2, b3, b4, b5, b6⟩ := l1_ref 1000 (wrap64 (Int.tdiv (wrap64 (s - wrap64 (s / 86400 * 86400))) 3600)) (Int.tmod (wrap64 (Int.tdiv (wrap64 (s - wrap64 (s / 86400 * 86400))) 60)) 60) (Int.tmod (wrap64 (s - wrap64 (s / 86400 * 86400))) 60) 0 300 k1 d1 y1 (by omega) (by omega) (by omega) a4
  have hjn := jday_next y2
  obtain ⟨d3, m3, c1, c2, c3, c4, c5, c6⟩ := l2_eq 900 (by decide) y2 (wrap64 (Int.tdiv (wrap64 (s - wrap64 (s / 86400 * 86400))) 3600)) (Int.tmod (wrap64 (Int.tdiv (wrap64 (s - wrap64 (s / 86400 * 86400))) 60)) 60) (Int.tmod (wrap64 (s - wrap64 (s / 86400 * 86400))) 60) 0 b3 11 k2 d2 1 (by omega) (by omega) (by omega) b4 (by rw [mst_first]; omega)
  have hof : r05_Of.f (k + 1) s = some (y2, m3, d3 + 1, wrap64 (Int.tdiv (wrap64 (s - wrap64 (s / 86400 * 86400))) 3600), Int.tmod (wrap64 (Int.tdiv (wrap64 (s - wrap64 (s / 86400 * 86400))) 60)) 60, Int.tmod (wrap64 (s - wrap64 (s / 86400 * 86400))) 60, 0, 0) := by
    unfold r05_Of.f
    rw [if_neg (by omega), decide_eq_false (by omega)]
    simp only [r05_Of.j0]
    rw [if_neg (by decide), day_ref k (by omega) s h, Option.bind_some, a2, b2, c1]
  have hw1 : wrap64 (s / 86400 * 86400) = s / 86400 * 86400 := by unfold wrap64; omega
  have hw2 : wrap64 (s - s / 86400 * 86400) = s % 86400 := by unfold wrap64; omega
  rw [hw1, hw2] at hof
  have t0 : 0 ≤ s % 86400 ∧ s % 86400 < 86400 := by omega
  rw [w_div (s % 86400) 3600 (by decide) t0.1 (by omega), w_div (s % 86400) 60 (by decide) t0.1 (by omega), Int.tmod_eq_emod_of_nonneg (by omega), Int.tmod_eq_emod_of_nonneg (by omega)] at hof
  have hday : mst y2 m3 ≤ ofD s ∧ ofD s = mst y2 m3 + d3 := by
    rw [mst_first] at c5
    omega
  have hnext : mst y2 m3 + mdl y2 m3 = mday (nextY (secY y2 m3) (secM m3)) (nextM (secM m3)) := by
    by_cases e : m3 = 12
    · subst e
      have h1 := mst_last y2
      have h2 : mdl y2 12 = 31 := by unfold mdl; simp
      rw [h2, h1]
      show mday (y2 + 1 - 1) 10 = mday y2 10
      rw [show y2 + 1 - 1 = y2 by omega]
    · rw [← mst_next y2 m3 ⟨c2, by omega⟩]
      unfold mst nextY nextM secY secM
      by_cases e1 : m3 = 1
      · subst e1; simp
      · by_cases e2 : m3 = 2
        · subst e2; simp
        · rw [if_neg (by omega), if_neg (by omega), if_neg (by omega), if_neg (by omega), if_neg (by omega), if_neg (by omega)]
          congr 1; omega
  have hsM : 0 ≤ secM m3 ∧ secM m3 ≤ 11 := by unfold secM; split <;> omega
  obtain ⟨q1, q2⟩ := month_between s (secY y2 m3) (secM m3) hsM hday.1 (by rw [← hnext]; omega)
  unfold r6_begins.f
  rw [hof, Option.bind_some, if_pos rfl]
  simp only
  have hfo : firstOf s = (mst y2 m3 - 693901) * 86400 := by unfold firstOf mst; rw [q1, q2]
  have hiff := mon_iff s h
  by_cases e1 : d3 + 1 = 1
  · rw [if_pos e1]
    by_cases e2 : s % 86400 / 3600 = 0
    · rw [if_pos e2]
      by_cases e3 : s % 86400 / 60 % 60 = 0
      · rw [if_pos e3]
        by_cases e4 : s % 86400 % 60 = 0
        · rw [beq_iff_eq.mpr e4, decide_eq_true (hiff.2 (by rw [hfo]; omega))]
        · rw [beq_eq_false_iff_ne.mpr e4, decide_eq_false (fun hm => by have := hiff.1 hm; rw [hfo] at this; omega)]
      · rw [if_neg e3, decide_eq_false (fun hm => by have := hiff.1 hm; rw [hfo] at this; omega)]
    · rw [if_neg e2, decide_eq_false (fun hm => by have := hiff.1 hm; rw [hfo] at this; omega)]
  · rw [if_neg e1, decide_eq_false (fun hm => by have := hiff.1 hm; rw [hfo] at this; omega)]
theorem in_eq (a m : Int) (hm : 0 ≤ m ∧ m ≤ 8000000000) : r6_in.f a m = some (decide (-m ≤ a ∧ a ≤ m)) := by
  unfold r6_in.f
  have hw : wrap64 (-m) = -m := by unfold wrap64; omega
  rw [hw]
  by_cases c : a ≥ -m
  · rw [if_pos c]
    by_cases c2 : a ≤ m
    · rw [decide_eq_true c2, decide_eq_true ⟨c, c2⟩]
    · rw [decide_eq_false c2, decide_eq_false (by omega)]
  · rw [if_neg c, decide_eq_false (by omega)]
theorem refold_eq (b e : Int) (l : List S44) (i : Nat) (h : i ≤ l.length) (hl : l.length ≤ 1000) : r6_old.f b e l i = some (oldAt b l i) := by
  have := old_eq b e l i h hl
  unfold leap_old.f at this
  unfold r6_old.f
  exact this
theorem rl1_eq (b e : Int) (l : List S44) (hl : l.length ≤ 64) (hE : ∀ x ∈ l, EntOk x) (hb : -1000 ≤ b ∧ b ≤ 1000) : ∀ (t : List S44) (i k : Nat), l.drop i = t → 2 * t.length + 2100 ≤ k → i ≤ l.length →
    r6_Check.l1 k i b e l = some (chkL (oldAt b l i) (match i with | 0 => none | i + 1 => some (rd_T44 l i).f0) t)
  | [], i, k, hd, hk, hi => by
    obtain ⟨k, rfl⟩ : ∃ j, k = j + 1 := ⟨k - 1, by omega⟩
    have : l.length ≤ i := by
      have := congrArg List.length hd
      rw [List.length_drop] at this
      simp only [List.length_nil] at this
      omega
    simp only [r6_Check.l1]
    rw [if_neg (by omega)]
    rfl
  | x :: t, i, k, hd, hk, hi => by
    obtain ⟨k, rfl⟩ : ∃ j, k = j + 2 := ⟨k - 2, by omega⟩
    obtain ⟨hx, hlt, hd2⟩ := rd_drop l i x t hd
    have hxm : x ∈ l := List.mem_of_mem_drop (by rw [hd]; exact List.mem_cons_self)
    have hxe := hE x hxm
    have hob : -1000 ≤ oldAt b l i ∧ oldAt b l i ≤ 1000 := by
      cases i with
      | zero => exact hb
      | succ j => exact (hE _ (mem_rd (by omega) (by omega))).2
    have ih := rl1_eq b e l hl hE hb t (i + 1) k hd2 (by simp only [List.length_cons] at hk; omega) hlt
    have hw1 : wrap64 ((i : Int) + 1) = ((i + 1 : Nat) : Int) := by unfold wrap64; omega
    have hold := refold_eq b e l i (by omega) (by omega)
    have hnx : oldAt b l (i + 1) = x.f1 := by show (rd_T44 l i).f1 = _; rw [hx]
    rw [hnx] at ih
    simp only [hx] at ih
    have hj3 : ∀ (x62 : Bool), r6_Check.j3 (k + 1) (i : Int) x62 b e l x.f0 x.f1 = some (if x62 = true then 12 else if x.f1 - oldAt b l i = 1 ∨ x.f1 - oldAt b l i = -1 then chkL x.f1 (some x.f0) t else 3) := by
      intro x62
      simp only [r6_Check.j3]
      cases x62 with
      | true => rfl
      | false =>
        rw [if_neg (show ¬ (false = true) by decide), if_neg (show ¬ (false = true) by decide), hold, Option.bind_some]
        have w1 : wrap64 (oldAt b l i + 1) = oldAt b l i + 1 := by unfold wrap64; omega
        have w2 : wrap64 (oldAt b l i - 1) = oldAt b l i - 1 := by unfold wrap64; omega
        rw [w1, hw1, ih]
        by_cases c1 : x.f1 = oldAt b l i + 1
        · rw [if_pos c1, if_pos (Or.inl (by omega))]
        · rw [if_neg c1, Option.bind_some, w2]
          by_cases c2 : x.f1 = oldAt b l i - 1
          · rw [if_pos c2, if_pos (Or.inr (by omega))]
          · rw [if_neg c2, if_neg (by omega)]
    simp only [r6_Check.l1]
    rw [if_pos (by omega), if_pos (by omega), hx, begins_eq (k + 1) (by omega) x.f0 hxe.1, Option.bind_some, chkL]
    by_cases c : mon x.f0 0 = (x.f0, true)
    · rw [if_pos (decide_eq_true c), if_neg (show ¬ mon x.f0 0 ≠ (x.f0, true) from fun h => h c)]
      cases i with
      | zero =>
        rw [if_neg (show ¬ (((0 : Nat) : Int) > 0) by omega), hj3 false, if_neg (show ¬ (false = true) by decide), if_neg (show ¬ ∃ p, (none : Option Int) = some p ∧ x.f0 ≤ p by rintro ⟨p, h, _⟩; cases h)]
      | succ j =>
        have hwj : wrap64 (((j + 1 : Nat) : Int) - 1) = (j : Int) := by unfold wrap64; omega
        rw [if_pos (show ((j + 1 : Nat) : Int) > 0 by omega), hwj, if_pos (show (0 : Int) ≤ (j : Int) by omega), if_pos (show (j : Int) < (l.length : Int) by omega), hj3]
        by_cases c2 : x.f0 ≤ (rd_T44 l j).f0
        · rw [if_pos (decide_eq_true c2), if_pos ⟨_, rfl, c2⟩]
        · rw [if_neg (by rw [decide_eq_false c2]; decide), if_neg (show ¬ ∃ p, some (rd_T44 l j).f0 = some p ∧ x.f0 ≤ p by rintro ⟨p, h, hp⟩; cases h; exact c2 hp)]
    · rw [if_neg (by rw [decide_eq_false c]; decide), if_pos (show mon x.f0 0 ≠ (x.f0, true) from c)]
theorem rl0_eq (b e : Int) (l : List S44) (hl : l.length ≤ 64) : ∀ (t : List S44) (i k : Nat), l.drop i = t → t.length + 1 ≤ k → i ≤ l.length →
    r6_Check.l0 k i b e l = if ∀ x ∈ t, (-8000000000 ≤ x.f0 ∧ x.f0 ≤ 8000000000) ∧ (-1000 ≤ x.f1 ∧ x.f1 ≤ 1000) then r6_Check.l1 (k - 1 - t.length) 0 b e l else some 3
  | [], i, k, hd, hk, hi => by
    obtain ⟨k, rfl⟩ : ∃ j, k = j + 1 := ⟨k - 1, by omega⟩
    have : l.length ≤ i := by
      have := congrArg List.length hd
      rw [List.length_drop] at this
      simp only [List.length_nil] at this
      omega
    simp only [r6_Check.l0]
    rw [if_neg (by omega), if_pos (fun x h => by cases h)]
    simp
  | x :: t, i, k, hd, hk, hi => by
    obtain ⟨k, rfl⟩ : ∃ j, k = j + 1 := ⟨k - 1, by omega⟩
    obtain ⟨hx, hlt, hd2⟩ := rd_drop l i x t hd
    have hw1 : wrap64 ((i : Int) + 1) = ((i + 1 : Nat) : Int) := by unfold wrap64; omega
    have ih := rl0_eq b e l hl t (i + 1) k hd2 (by simp only [List.length_cons] at hk; omega) hlt
    simp only [r6_Check.l0]
    rw [if_pos (by omega), if_pos (by omega), hx, hw1, in_eq _ _ (by decide), Option.bind_some]
    have e1 : k + 1 - 1 - (x :: t).length = k - 1 - t.length := by simp only [List.length_cons]; omega
    rw [e1]
    by_cases c1 : -8000000000 ≤ x.f0 ∧ x.f0 ≤ 8000000000
    · rw [if_pos (decide_eq_true c1), in_eq _ _ (by decide), Option.bind_some]
      by_cases c2 : -1000 ≤ x.f1 ∧ x.f1 ≤ 1000
      · rw [if_pos (decide_eq_true c2), ih]
        by_cases c3 : ∀ y ∈ t, (-8000000000 ≤ y.f0 ∧ y.f0 ≤ 8000000000) ∧ (-1000 ≤ y.f1 ∧ y.f1 ≤ 1000)
        · rw [if_pos c3, if_pos (fun y hy => by rcases List.mem_cons.1 hy with rfl | hy; exact ⟨c1, c2⟩; exact c3 y hy)]
        · rw [if_neg c3, if_neg (fun h => c3 (fun y hy => h y (List.mem_cons_of_mem _ hy)))]
      · rw [if_neg (by rw [decide_eq_false c2]; decide), if_neg (fun h => c2 (h x List.mem_cons_self).2)]
    · rw [if_neg (by rw [decide_eq_false c1]; decide), if_neg (fun h => c1 (h x List.mem_cons_self).1)]
theorem refcheck_eq (k : Nat) (hk : 2400 ≤ k) (b e : Int) (l : List S44) : r6_Check.f k b e l = some (chk b e l) := by
  obtain ⟨k, rfl⟩ : ∃ j, k = j + 1 := ⟨k - 1, by omega⟩
  unfold r6_Check.f chk
  by_cases c : (l.length : Int) > 64
  · rw [if_pos c, if_pos (by omega)]
  · rw [if_neg c, if_neg (show ¬ l.length > 64 by omega), in_eq _ _ (by decide), Option.bind_some]
    have hl : l.length ≤ 64 := by omega
    by_cases c1 : -1000 ≤ b ∧ b ≤ 1000
    · rw [if_pos (decide_eq_true c1), in_eq _ _ (by decide), Option.bind_some]
      simp only [r6_Check.j0]
      by_cases c2 : -8000000000 ≤ e ∧ e ≤ 8000000000
      · rw [if_neg (by rw [decide_eq_true c2]; decide)]
        have h0 := rl0_eq b e l hl l 0 k rfl (by omega) (by omega)
        rw [show ((0 : Nat) : Int) = 0 from rfl] at h0
        rw [h0]
        by_cases c3 : ∀ x ∈ l, (-8000000000 ≤ x.f0 ∧ x.f0 ≤ 8000000000) ∧ (-1000 ≤ x.f1 ∧ x.f1 ≤ 1000)
        · rw [if_pos c3, if_pos ⟨c1, c2, c3⟩]
          exact rl1_eq b e l hl (fun x hx => c3 x hx) c1 l 0 _ rfl (by omega) (by omega)
        · rw [if_neg c3, if_neg (fun h => c3 h.2.2)]
      · rw [if_pos (by rw [decide_eq_false c2]; rfl), if_neg (fun h => c2 h.2.1)]
    · rw [if_neg (by rw [decide_eq_false c1]; decide), if_neg (fun h => c1 h.1)]
      simp only [r6_Check.j0]
      rw [if_pos trivial]
end Go.Proofs.YtipbkcilpnlgnaaDoor.M
