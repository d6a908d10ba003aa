/-
  The calendar, plain: a second lies in its month; months follow one another.
-/
import Derived.Test.YtipbkcilpnlgnaaDoorExtG
import Derived.Test.YtipbkcilpnlgnaaDoorPa
namespace Go.Proofs.YtipbkcilpnlgnaaDoor.M
open Go.RowKit Go.Proofs.YtipbkcilpnlgnaaDoorG Go.Proofs.YtipbkcilpnlgnaaDoorW.PA Go.Proofs.YtipbkcilpnlgnaaDoorW.PB Go.Proofs.YtipbkcilpnlgnaaDoorW.PC
set_option linter.unusedVariables false
set_option linter.unusedSimpArgs false
/-- The first day of a month, from 0000-03-01 on: years begin with March, M counts from March on. -/
def mday (Y M : Int) : Int := 365 * Y + Y / 4 - Y / 100 + Y / 400 + (153 * M + 2) / 5
theorem mday_month (Y M M' : Int) (h0 : 0 ≤ M) (h : M < M') : mday Y M + 28 ≤ mday Y M' := by unfold mday; omega
theorem mday_year (Y Y' M M' : Int) (h0 : 0 ≤ M ∧ M ≤ 11) (h1 : 0 ≤ M' ∧ M' ≤ 11) (h : Y < Y') : mday Y M < mday Y' M' := by
  have hm : (153 * M + 2) / 5 ≤ 337 := by omega
  have hm' : 0 ≤ (153 * M' + 2) / 5 := by omega
  unfold mday
  generalize (153 * M + 2) / 5 = a at *
  generalize (153 * M' + 2) / 5 = b at *
  omega
/-- The day behind the last of the year of a day of the cycle. -/
def nextN (e : Nat) : Nat := 365 * ((e - e / 1460 + e / 36524 - e / 146096) / 365 + 1) + ((e - e / 1460 + e / 36524 - e / 146096) / 365 + 1) / 4 + ((e - e / 1460 + e / 36524 - e / 146096) / 365 + 1) / 400 - ((e - e / 1460 + e / 36524 - e / 146096) / 365 + 1) / 100
def nextOk (lo : Nat) : Nat → Bool
  | 0 => true
  | n + 1 => Nat.ble (lo + n + 1) (nextN (lo + n)) && nextOk lo n
theorem nextOk_at (lo : Nat) : ∀ n, nextOk lo n = true → ∀ i, i < n → lo + i + 1 ≤ nextN (lo + i)
  | 0, _, i, h => absurd h (Nat.not_lt_zero i)
  | n + 1, h, i, hi => by
    unfold nextOk at h
    simp only [Bool.and_eq_true, Nat.ble_eq] at h
    by_cases c : i = n
    · rw [c]; exact h.1
    · exact nextOk_at lo n h.2 i (by omega)
theorem nextOk_all : ((List.range 147).all fun k => nextOk (1000 * k) 1000) = true := by decide +kernel
theorem nextN_b (e : Nat) (h : e < 146097) : e + 1 ≤ nextN e := by
  have h1 := List.all_eq_true.1 nextOk_all (e / 1000) (List.mem_range.2 (by omega))
  have h2 := nextOk_at _ _ h1 (e % 1000) (by omega)
  rwa [show 1000 * (e / 1000) + e % 1000 = e by omega] at h2
theorem ofE_next (s : Int) : ofE s < 365 * (ofY s + 1) + (ofY s + 1) / 4 - (ofY s + 1) / 100 + (ofY s + 1) / 400 := by
  have hE := ofE_b s
  obtain ⟨e, he⟩ : ∃ e : Nat, ofE s = e := ⟨(ofE s).toNat, by omega⟩
  have h := nextN_b e (by omega)
  have hy : ofY s = ((e - e / 1460 + e / 36524 - e / 146096) / 365 : Nat) := by unfold ofY; rw [he]; omega
  unfold nextN at h
  rw [he, hy]
  generalize (e - e / 1460 + e / 36524 - e / 146096) / 365 = y at h ⊢
  rw [show ((y : Int) + 1) / 4 = (((y + 1) / 4 : Nat) : Int) by omega, show ((y : Int) + 1) / 100 = (((y + 1) / 100 : Nat) : Int) by omega, show ((y : Int) + 1) / 400 = (((y + 1) / 400 : Nat) : Int) by omega]
  generalize (y + 1) / 4 = g at *
  generalize (y + 1) / 100 = i at *
  generalize (y + 1) / 400 = j at *
  omega
/-- The year from March on, and its day of the month from 0 on. -/
def ofYY (s : Int) : Int := 400 * ofC s + ofY s
theorem day_in (s : Int) : mday (ofYY s) (ofM s) ≤ ofD s ∧ ofD s - mday (ofYY s) (ofM s) = ofF s - (153 * ofM s + 2) / 5 ∧ ofF s - (153 * ofM s + 2) / 5 ≤ 30 := by
  have hF := ofF_b s
  have hY := ofY_b s
  have hD : ofD s = 146097 * ofC s + ofE s := by unfold ofC ofE; omega
  have hFd : ofF s = ofE s - (365 * ofY s + ofY s / 4 - ofY s / 100) := rfl
  have hM : ofM s = (5 * ofF s + 2) / 153 := rfl
  have e1 : mday (ofYY s) (ofM s) = 146097 * ofC s + (365 * ofY s + ofY s / 4 - ofY s / 100) + (153 * ofM s + 2) / 5 := by
    unfold mday ofYY
    generalize ofC s = C
    generalize ofY s = Y at *
    omega
  rw [e1, hD]
  generalize ofE s = E at *
  generalize 365 * ofY s + ofY s / 4 - ofY s / 100 = z at *
  generalize ofF s = F at *
  generalize ofM s = M at *
  subst hM
  omega
theorem day_before (s : Int) (Y M : Int) (hM : 0 ≤ M ∧ M ≤ 11) (h : ofYY s < Y ∨ (ofYY s = Y ∧ ofM s < M)) : ofD s < mday Y M := by
  have hF := ofF_b s
  have hMb := ofM_b s
  have hin := day_in s
  rcases h with h | ⟨h, h2⟩
  · have hn := ofE_next s
    have hD : ofD s = 146097 * ofC s + ofE s := by unfold ofC ofE; omega
    have hle : mday (ofYY s + 1) 0 ≤ mday Y M := by
      by_cases c : ofYY s + 1 = Y
      · by_cases c2 : M = 0
        · rw [c, c2]; exact Int.le_refl _
        · have := mday_month Y 0 M (by decide) (by omega)
          rw [c]; omega
      · exact Int.le_of_lt (mday_year _ _ _ _ (by decide) hM (by omega))
    have e1 : mday (ofYY s + 1) 0 = 146097 * ofC s + (365 * (ofY s + 1) + (ofY s + 1) / 4 - (ofY s + 1) / 100 + (ofY s + 1) / 400) := by
      unfold mday ofYY
      generalize ofC s = C
      generalize ofY s = Y at *
      omega
    omega
  · subst h
    have hM2 : ofM s = (5 * ofF s + 2) / 153 := rfl
    have := mday_month (ofYY s) (ofM s) M hMb.1 h2
    unfold mday at hin ⊢
    generalize 365 * ofYY s + ofYY s / 4 - ofYY s / 100 + ofYY s / 400 = z at *
    generalize ofF s = F at *
    generalize ofM s = K at *
    omega
/-- A second's month is told by the days between which it lies. -/
theorem month_is (s Y M : Int) (hM : 0 ≤ M ∧ M ≤ 11) (h : ofD s = mday Y M) : ofYY s = Y ∧ ofM s = M := by
  have hMb := ofM_b s
  have hin := (day_in s).1
  have h1 : ¬ (ofYY s < Y ∨ (ofYY s = Y ∧ ofM s < M)) := fun c => by have := day_before s Y M hM c; omega
  have h2 : ¬ (Y < ofYY s) := fun c => by have := mday_year Y (ofYY s) M (ofM s) hM hMb c; omega
  have h3 : ¬ (ofYY s = Y ∧ M < ofM s) := fun c => by
    have := mday_month Y M (ofM s) hM.1 c.2
    rw [c.1] at hin; omega
  omega
theorem mday_le (Y M Y' M' : Int) (h0 : 0 ≤ M ∧ M ≤ 11) (h1 : 0 ≤ M' ∧ M' ≤ 11) (h : Y < Y' ∨ (Y = Y' ∧ M ≤ M')) : mday Y M ≤ mday Y' M' := by
  rcases h with h | ⟨h, h2⟩
  · exact Int.le_of_lt (mday_year Y Y' M M' h0 h1 h)
  · subst h
    by_cases c : M = M'
    · subst c; exact Int.le_refl _
    · have := mday_month Y M M' h0.1 (by omega)
      omega
def nextY (Y M : Int) : Int := if M = 11 then Y + 1 else Y
def nextM (M : Int) : Int := if M = 11 then 0 else M + 1
theorem mday_next (Y M : Int) (h0 : 0 ≤ M ∧ M ≤ 11) : mday (nextY Y M) (nextM M) ≤ mday Y M + 31 := by
  unfold nextY nextM mday
  by_cases c : M = 11
  · rw [if_pos c, if_pos c]; subst c; omega
  · rw [if_neg c, if_neg c]; omega
theorem nextM_b (M : Int) (h0 : 0 ≤ M ∧ M ≤ 11) : 0 ≤ nextM M ∧ nextM M ≤ 11 := by unfold nextM; split <;> omega
theorem sec_mday (y m : Int) : secAt y m 1 0 0 0 = (mday (secY y m) (secM m) - 693901) * 86400 := by
  unfold secAt secDay mday; omega
def ofYear (s : Int) : Int := if ofM s + 3 > 12 then ofYY s + 1 else ofYY s
def ofMon (s : Int) : Int := if ofM s + 3 > 12 then ofM s + 3 - 12 else ofM s + 3
def ofDay (s : Int) : Int := ofF s - (153 * ofM s + 2) / 5 + 1
theorem of_eq (s : Int) (h : -8000000000 ≤ s ∧ s ≤ 8000000000) : civil_Of.f s = some (ofYear s, ofMon s, ofDay s, ofT s / 3600, ofT s / 60 % 60, ofT s % 60, 0, 0) := by
  rw [of_some s (by omega)]
  unfold ofYear ofMon ofDay ofYY
  split <;> rfl
theorem of_bad (s : Int) (h : ¬ (-8000000000 ≤ s ∧ s ≤ 8000000000)) : civil_Of.f s = some (0, 0, 0, 0, 0, 0, 0, 3) := of_none s (by omega)
theorem ofYY_b (s : Int) (h : -8000000000 ≤ s ∧ s ≤ 8000000000) : 0 ≤ ofYY s ∧ ofYY s ≤ 10000 := by
  have := ofD_b s h.1 h.2
  have := ofY_b s
  unfold ofYY ofC; omega
theorem ym_index (s : Int) : 12 * ofYear s + ofMon s = 12 * ofYY s + ofM s + 3 := by unfold ofYear ofMon; split <;> omega
theorem secs_first (y m : Int) (r : Int × Int) (h : civil_Seconds.f y m 1 0 0 0 0 = some r) (h0 : r.2 = 0) : r.1 = (mday (secY y m) (secM m) - 693901) * 86400 := by
  unfold civil_Seconds.f at h
  split at h
  · split at h
    · obtain rfl := Option.some.inj h; cases h0
    · obtain rfl := Option.some.inj h; exact sec_mday y m
  · rename_i hne
    obtain rfl := Option.some.inj h
    exact (hne h0).elim
theorem mon_range (u n : Int) (h : (mon u n).2 = true) : -8000000000 ≤ u ∧ u ≤ 8000000000 := by
  have hm := month_eq u n
  generalize mon u n = r at *
  unfold leap_month.f at hm
  by_cases c : -8000000000 ≤ u ∧ u ≤ 8000000000
  · exact c
  · rw [of_bad u c, Option.bind_some, if_neg (by decide)] at hm
    obtain rfl := Option.some.inj hm
    cases h
theorem mon_next (u : Int) (h : (mon u 1).2 = true) : (mon u 1).1 = (mday (nextY (ofYY u) (ofM u)) (nextM (ofM u)) - 693901) * 86400 := by
  have hr := mon_range u 1 h
  have hm := month_eq u 1
  have hM := ofM_b u
  have hY := ofYY_b u hr
  generalize mon u 1 = r at *
  unfold leap_month.f at hm
  rw [of_eq u hr, Option.bind_some, if_pos rfl] at hm
  simp only at hm
  have e1 : wrap64 (ofMon u + 1) = ofMon u + 1 := by unfold ofMon; split <;> (unfold wrap64; omega)
  have e2 : wrap64 (ofYear u + 1) = ofYear u + 1 := by unfold ofYear; split <;> (unfold wrap64; omega)
  rw [e1, e2] at hm
  split at hm
  · rename_i c
    obtain ⟨s, hs⟩ := sec_total (ofYear u + 1) 1 1 0 0 0 0
    rw [hs, Option.bind_some] at hm
    obtain rfl := Option.some.inj hm
    have := secs_first _ _ _ hs (beq_iff_eq.1 h)
    rw [show secY (ofYear u + 1) 1 = nextY (ofYY u) (ofM u) by unfold secY nextY ofYear at *; unfold ofMon at c; split at c <;> (rw [if_pos (by decide)]; split <;> split <;> omega), show secM 1 = nextM (ofM u) by unfold secM nextM; unfold ofMon at c; rw [if_pos (by decide)]; split at c <;> split <;> omega] at this
    exact this
  · rename_i c
    obtain ⟨s, hs⟩ := sec_total (ofYear u) (ofMon u + 1) 1 0 0 0 0
    rw [hs, Option.bind_some] at hm
    obtain rfl := Option.some.inj hm
    have := secs_first _ _ _ hs (beq_iff_eq.1 h)
    rw [show secY (ofYear u) (ofMon u + 1) = nextY (ofYY u) (ofM u) by unfold secY nextY ofYear ofMon at *; split <;> split <;> split <;> omega, show secM (ofMon u + 1) = nextM (ofM u) by unfold secM nextM ofMon at *; split <;> split <;> split <;> omega] at this
    exact this
theorem mon_this (v : Int) (h : mon v 0 = (v, true)) : (-8000000000 ≤ v ∧ v ≤ 8000000000) ∧ v = (mday (ofYY v) (ofM v) - 693901) * 86400 := by
  have hr := mon_range v 0 (by rw [h])
  have hm := month_eq v 0
  have hM := ofM_b v
  have hY := ofYY_b v hr
  rw [h] at hm
  unfold leap_month.f at hm
  rw [of_eq v hr, Option.bind_some, if_pos rfl] at hm
  simp only at hm
  have e1 : wrap64 (ofMon v + 0) = ofMon v := by unfold ofMon; split <;> (unfold wrap64; omega)
  rw [e1, if_neg (by unfold ofMon; split <;> omega)] at hm
  obtain ⟨s, hs⟩ := sec_total (ofYear v) (ofMon v) 1 0 0 0 0
  rw [hs, Option.bind_some] at hm
  simp only [Option.some.injEq, Prod.mk.injEq] at hm
  have := secs_first _ _ _ hs (beq_iff_eq.1 hm.2)
  rw [hm.1, show secY (ofYear v) (ofMon v) = ofYY v by unfold secY ofYear ofMon; split <;> split <;> omega, show secM (ofMon v) = ofM v by unfold secM ofMon; split <;> split <;> omega] at this
  exact ⟨hr, this⟩
/-- The month behind a second's: it begins later, at most 31 days; no month begins between; its own civil time. -/
theorem next_month (u : Int) (h : (mon u 1).2 = true) : u < (mon u 1).1 ∧ (mon u 1).1 - u ≤ 2678400 ∧ (∀ v, mon v 0 = (v, true) → v < (mon u 1).1 → v ≤ u) ∧
    (-8000000000 ≤ (mon u 1).1 ∧ (mon u 1).1 ≤ 8000000000 → ofDay (mon u 1).1 = 1 ∧ 12 * ofYear (mon u 1).1 + ofMon (mon u 1).1 - (12 * ofYear u + ofMon u) = 1) := by
  have hr := mon_range u 1 h
  have hn := mon_next u h
  have hM := ofM_b u
  have hNM := nextM_b (ofM u) hM
  have hb := day_before u (nextY (ofYY u) (ofM u)) (nextM (ofM u)) hNM (by unfold nextY nextM; split <;> omega)
  have hx := mday_next (ofYY u) (ofM u) hM
  have hin := (day_in u).1
  have hD : ofD u = u / 86400 + 693901 := rfl
  generalize hA : mon u 1 = A at *
  obtain ⟨a, ok⟩ := A
  simp only at hn ⊢
  refine ⟨by omega, by omega, ?_, ?_⟩
  · intro v hv hlt
    obtain ⟨hvr, hv⟩ := mon_this v hv
    have hMv := ofM_b v
    by_cases c : ofYY v < ofYY u ∨ (ofYY v = ofYY u ∧ ofM v ≤ ofM u)
    · have := mday_le _ _ _ _ hMv hM c
      omega
    · have := mday_le (nextY (ofYY u) (ofM u)) (nextM (ofM u)) (ofYY v) (ofM v) hNM hMv (by unfold nextY nextM; split <;> omega)
      omega
  · intro hra
    have hDa : ofD a = mday (nextY (ofYY u) (ofM u)) (nextM (ofM u)) := by unfold ofD; omega
    obtain ⟨h1, h2⟩ := month_is a _ _ hNM hDa
    have hia := (day_in a).2.1
    have i1 := ym_index a
    have i2 := ym_index u
    refine ⟨?_, ?_⟩
    · unfold ofDay
      rw [← hia, h1, h2, hDa]; omega
    · rw [i1, i2, h1, h2]
      unfold nextY nextM
      split <;> omega
end Go.Proofs.YtipbkcilpnlgnaaDoor.M
