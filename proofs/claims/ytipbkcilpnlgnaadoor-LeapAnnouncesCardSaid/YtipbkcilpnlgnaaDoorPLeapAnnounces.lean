/-
  LeapAnnounces, plain: an indicator of 1 or 2 announces the next entry, which begins with the next month.
-/
import Derived.Test.YtipbkcilpnlgnaaDoorPm
import Derived.Test.YtipbkcilpnlgnaaDoorPg
namespace Go.Proofs.YtipbkcilpnlgnaaDoor.M
open Go.RowKit Go.Proofs.YtipbkcilpnlgnaaDoorG Go.Proofs.YtipbkcilpnlgnaaDoorW.PrintWords Go.Proofs.YtipbkcilpnlgnaaDoorW.PrintLast Go.Proofs.YtipbkcilpnlgnaaDoorW.PrintMore
set_option linter.unusedVariables false
set_option linter.unusedSimpArgs false
def indR (o m : Int) (ok : Bool) : List S44 → Int
  | [] => 0
  | e :: t => if ok = true ∧ e.f0 = m then (if e.f1 > o then 1 else 2) else indR e.f1 m ok t
theorem ind_l0 (b e : Int) (l : List S44) (hl : l.length ≤ 64) (m : Int) (ok : Bool) : ∀ (t : List S44) (i k : Nat), l.drop i = t → 2 * t.length + 2 ≤ k → i ≤ l.length →
    leap_Indicator.l0 k m ok l (l.length : Int) i b e l = some (indR (oldAt b l i) m ok t)
  | [], i, k, hd, hk, hi => by
    obtain ⟨k, rfl⟩ : ∃ j, k = j + 1 := ⟨k - 1, by omega⟩
    have : l.length ≤ i := by
      have := congrArg List.length hd
      rw [List.length_drop] at this
      simp only [List.length_nil] at this
      omega
    simp only [leap_Indicator.l0]
    rw [if_neg (by omega)]
    rfl
  | x :: t, i, k, hd, hk, hi => by
    obtain ⟨k, rfl⟩ : ∃ j, k = j + 2 := ⟨k - 2, by simp only [List.length_cons] at hk; omega⟩
    obtain ⟨hx, hlt, hd2⟩ := rd_drop l i x t hd
    have hw1 : wrap64 ((i : Int) + 1) = ((i + 1 : Nat) : Int) := by unfold wrap64; omega
    have ih := ind_l0 b e l hl m ok t (i + 1) k hd2 (by simp only [List.length_cons] at hk; omega) hlt
    have hnx : oldAt b l (i + 1) = x.f1 := by show (rd_T44 l i).f1 = _; rw [hx]
    rw [hnx] at ih
    have hold := old_eq b e l i (by omega) (by omega)
    have hj : ∀ (x35 : Bool), leap_Indicator.j1 (k + 1) m ok (i : Int) l (l.length : Int) i x35 b e l x.f0 x.f1 = some (if x35 = true then (if x.f1 > oldAt b l i then 1 else 2) else indR x.f1 m ok t) := by
      intro x35
      simp only [leap_Indicator.j1, hw1]
      cases x35 with
      | true =>
        rw [if_pos rfl, if_pos rfl, hold, Option.bind_some]
        split <;> rfl
      | false =>
        rw [if_neg (show ¬ (false = true) by decide), if_neg (show ¬ (false = true) by decide)]
        exact ih
    simp only [leap_Indicator.l0]
    rw [if_pos (by omega), if_pos (by omega), if_pos (by omega), hx, indR]
    cases ok with
    | true =>
      rw [if_pos rfl, hj]
      by_cases c : x.f0 = m
      · rw [if_pos (show (x.f0 == m) = true from beq_iff_eq.mpr c), if_pos (show true = true ∧ x.f0 = m from ⟨rfl, c⟩)]
      · rw [if_neg (show ¬ (x.f0 == m) = true by simpa using c), if_neg (show ¬ (true = true ∧ x.f0 = m) from fun h => c h.2)]
    | false =>
      rw [if_neg (show ¬ (false = true) by decide), hj, if_neg (show ¬ (false = true) by decide), if_neg (show ¬ (false = true ∧ x.f0 = m) from fun h => by cases h.1)]
theorem ind_eq (k : Nat) (hk : 400 ≤ k) (b e : Int) (l : List S44) (hc : chk b e l = 0) (u : Int) : leap_Indicator.f k b e l u = some (if u ≥ e then 3 else indR b (mon u 1).1 (mon u 1).2 l) := by
  obtain ⟨h1, h2, h3, h4, h5⟩ := chk_ok hc
  unfold leap_Indicator.f
  rw [check_eq _ hk, Option.bind_some, if_pos hc]
  by_cases c : u ≥ e
  · rw [if_pos c, if_pos c]
  · rw [if_neg c, if_neg c, month_eq, Option.bind_some]
    exact ind_l0 b e l h1 _ _ l 0 k rfl (by omega) (by omega)
theorem ind_bad (k : Nat) (hk : 400 ≤ k) (b e : Int) (l : List S44) (hc : chk b e l ≠ 0) (u : Int) : leap_Indicator.f k b e l u = some 0 := by
  unfold leap_Indicator.f
  rw [check_eq _ hk, Option.bind_some, if_neg hc]
theorem ind_vals (m : Int) (ok : Bool) : ∀ (l : List S44) (o : Int), indR o m ok l = 0 ∨ indR o m ok l = 1 ∨ indR o m ok l = 2
  | [], o => .inl rfl
  | e :: t, o => by
    unfold indR
    split
    · split
      · exact .inr (.inl rfl)
      · exact .inr (.inr rfl)
    · exact ind_vals m ok t _
theorem ind_mem (m : Int) (ok : Bool) : ∀ (l : List S44) (o : Int), indR o m ok l ≠ 0 → ok = true ∧ ∃ x ∈ l, x.f0 = m
  | [], o, h => absurd rfl h
  | e :: t, o, h => by
    unfold indR at h
    split at h
    · rename_i c
      exact ⟨c.1, e, List.mem_cons_self, c.2⟩
    · obtain ⟨h1, x, hx, hm⟩ := ind_mem m ok t _ h
      exact ⟨h1, x, List.mem_cons_of_mem _ hx, hm⟩
theorem good_lt : ∀ (l : List S44) (o p : Int), Good o (some p) l → ∀ x ∈ l, p < x.f0
  | [], o, p, _, x, hx => by cases hx
  | e :: t, o, p, hg, x, hx => by
    obtain ⟨h1, h2, h3⟩ := hg
    have h1 := h1 p rfl
    rcases List.mem_cons.1 hx with rfl | hx
    · omega
    · have := good_lt t e.f1 e.f0 h3 x hx
      omega
theorem announce (u m : Int) (hm : u < m) : ∀ (l : List S44) (o : Int) (p : Option Int), Good o p l → (∀ x ∈ l, x.f0 < m → x.f0 ≤ u) → indR o m true l ≠ 0 →
    cnt l u < l.length ∧ ∃ x t, l.drop (cnt l u) = x :: t ∧ x ∈ l ∧ x.f0 = m ∧ x.f1 - offR o l u = 3 - 2 * indR o m true l
  | [], o, p, _, _, h => absurd rfl h
  | e :: t, o, p, hg, hb, h => by
    obtain ⟨h1, h2, h3⟩ := hg
    by_cases c : e.f0 = m
    · have hc : cnt (e :: t) u = 0 := by unfold cnt; rw [if_neg (by omega)]
      have ho : offR o (e :: t) u = o := by unfold offR; rw [if_neg (by omega)]
      rw [hc, ho]
      refine ⟨by simp, e, t, rfl, List.mem_cons_self, c, ?_⟩
      unfold indR
      rw [if_pos ⟨rfl, c⟩]
      split <;> omega
    · have hi : indR o m true (e :: t) = indR e.f1 m true t := by rw [indR, if_neg (fun h => c h.2)]
      rw [hi] at h ⊢
      obtain ⟨-, x, hx, hxm⟩ := ind_mem m true t _ h
      have hlt := good_lt t e.f1 e.f0 h3 x hx
      have hle := hb e List.mem_cons_self (by omega)
      obtain ⟨g1, y, s, g2, g3, g4, g5⟩ := announce u m hm t e.f1 _ h3 (fun y hy => hb y (List.mem_cons_of_mem _ hy)) h
      have hc : cnt (e :: t) u = cnt t u + 1 := by rw [cnt, if_pos hle]
      have ho : offR o (e :: t) u = offR e.f1 t u := by rw [offR, if_pos hle]
      rw [hc, ho]
      exact ⟨by simp only [List.length_cons]; omega, y, s, g2, List.mem_cons_of_mem _ g3, g4, g5⟩
theorem next_eq (k : Nat) (hk : 400 ≤ k) (b e : Int) (l : List S44) (hc : chk b e l = 0) (u : Int) (x : S44) (t : List S44) (hd : l.drop (cnt l u) = x :: t) : leap_Next.f k b e l u = some (x.f0, x.f1, true) := by
  obtain ⟨h1, h2, h3, h4, h5⟩ := chk_ok hc
  obtain ⟨hx, hlt, -⟩ := rd_drop l _ x t hd
  unfold leap_Next.f
  rw [check_eq _ hk, Option.bind_some, if_pos hc, count_eq _ (by omega) b e l h1, Option.bind_some, if_neg (by omega), if_pos (by omega), if_pos (by omega), hx]
theorem chkL_mon : ∀ (l : List S44) (o : Int) (p : Option Int), chkL o p l = 0 → ∀ x ∈ l, mon x.f0 0 = (x.f0, true)
  | [], o, p, _, x, hx => by cases hx
  | e :: t, o, p, h, x, hx => by
    unfold chkL at h
    split at h
    · cases h
    · rename_i hm
      split at h
      · cases h
      · split at h
        · rcases List.mem_cons.1 hx with rfl | hx
          · simpa using hm
          · exact chkL_mon t _ _ h x hx
        · cases h
theorem pure_LeapAnnounces (a0_0 a0_1 : Int) (l0 : List S44) (a1 : Int) : ∃ k, timesynclaw06_LeapAnnounces.f k a0_0 a0_1 l0 a1 = some true := by
  refine ⟨1003, ?_⟩
  unfold timesynclaw06_LeapAnnounces.f
  rw [small_eq, Option.bind_some]
  by_cases cs : (l0.length : Int) ≤ 70
  · rw [if_pos (decide_eq_true cs)]
    by_cases hc : chk a0_0 a0_1 l0 = 0
    · obtain ⟨h1, h2, h3, h4, h5⟩ := chk_ok hc
      have hg := good_of l0 a0_0 none (fun q hq => by cases hq) h5
      rw [ind_eq 1003 (by decide) a0_0 a0_1 l0 hc, Option.bind_some]
      by_cases ce : a1 ≥ a0_1
      · rw [if_pos ce, if_neg (by decide)]
        simp only [timesynclaw06_LeapAnnounces.j0]
        rw [if_pos (by decide), if_neg (by decide), if_pos trivial, if_pos ce]
        exact awake_at' _ (by decide)
      · rw [if_neg ce]
        by_cases ci : indR a0_0 (mon a1 1).1 (mon a1 1).2 l0 = 0
        · rw [ci, if_neg (by decide)]
          simp only [timesynclaw06_LeapAnnounces.j0]
          rw [if_pos (by decide), if_pos trivial]
          exact awake_at' _ (by decide)
        · obtain ⟨hok, -⟩ := ind_mem _ _ _ _ ci
          obtain ⟨n1, n2, n3, n4⟩ := next_month a1 hok
          rw [hok] at ci ⊢
          obtain ⟨g1, x, t, g2, g3, g4, g5⟩ := announce a1 (mon a1 1).1 n1 l0 a0_0 none hg (fun y hy hlt => n3 _ (chkL_mon l0 _ _ h5 y hy) hlt) ci
          have hxe := (h4 x g3).1
          rw [g4] at hxe
          obtain ⟨n5, n6⟩ := n4 hxe
          have hr := mon_range a1 1 hok
          have hv := ind_vals (mon a1 1).1 true l0 a0_0
          have hob := offR_b (l := l0) h2 h4 a1
          have hxo := (h4 x g3).2
          have hnx := next_eq 1002 (by decide) a0_0 a0_1 l0 hc a1 x t g2
          rw [g4] at hnx
          have hju : timesynclaw06_LeapAnnounces.j0 1003 a1 (indR a0_0 (mon a1 1).1 true l0) false a0_0 a0_1 l0 = some true := by
            generalize indR a0_0 (mon a1 1).1 true l0 = i at *
            generalize hA : (mon a1 1).1 = A at *
            have y1 := ofYY_b a1 hr
            have y2 := ofYY_b A hxe
            have hM1 := ofM_b a1
            have hM2 := ofM_b A
            have b1 : 0 ≤ ofYear a1 ∧ ofYear a1 ≤ 10001 := by unfold ofYear; split <;> omega
            have b2 : 0 ≤ ofYear A ∧ ofYear A ≤ 10001 := by unfold ofYear; split <;> omega
            have b3 : 0 ≤ ofMon a1 ∧ ofMon a1 ≤ 20 := by unfold ofMon; split <;> omega
            have b4 : 0 ≤ ofMon A ∧ ofMon A ≤ 20 := by unfold ofMon; split <;> omega
            have w1 : wrap64 (A - a1) = A - a1 := by unfold wrap64; omega
            simp only [timesynclaw06_LeapAnnounces.j0]
            rw [if_neg (by decide), hnx, Option.bind_some]
            simp only [w1]
            rw [if_pos trivial, if_neg (by omega), if_neg (by omega), decide_eq_false (by omega)]
            simp only [timesynclaw06_LeapAnnounces.j1]
            rw [if_neg (by decide), of_eq a1 hr, Option.bind_some, of_eq A hxe, Option.bind_some]
            simp only
            have w2 : wrap64 (wrap64 (wrap64 (12 * ofYear A) + ofMon A) - wrap64 (wrap64 (12 * ofYear a1) + ofMon a1)) = 1 := by
              rw [show wrap64 (12 * ofYear A) = 12 * ofYear A by unfold wrap64; omega, show wrap64 (12 * ofYear a1) = 12 * ofYear a1 by unfold wrap64; omega, show wrap64 (12 * ofYear A + ofMon A) = 12 * ofYear A + ofMon A by unfold wrap64; omega, show wrap64 (12 * ofYear a1 + ofMon a1) = 12 * ofYear a1 + ofMon a1 by unfold wrap64; omega, n6]
              unfold wrap64; omega
            rw [if_pos trivial, if_pos trivial, if_pos n5, w2]
            simp only [timesynclaw06_LeapAnnounces.j2]
            rw [if_neg (by decide), off_eq 1000 (by decide) a0_0 a0_1 l0 hc, Option.bind_some]
            have w3 : wrap64 (x.f1 - offR a0_0 l0 a1) = x.f1 - offR a0_0 l0 a1 := by unfold wrap64; omega
            have w4 : wrap64 (3 - wrap64 (2 * i)) = 3 - 2 * i := by rcases hv with h | h | h <;> (rw [h]; unfold wrap64; omega)
            rw [w3, w4, if_pos g5, if_pos (by omega)]
            exact awake_at' _ (by decide)
          rcases hv with hv | hv | hv
          · exact (ci hv).elim
          · rw [if_pos hv]; exact hju
          · rw [if_neg (by omega), show ((indR a0_0 (mon a1 1).1 true l0 != 2) : Bool) = false by rw [hv]; rfl]
            exact hju
    · rw [ind_bad 1003 (by decide) a0_0 a0_1 l0 hc, Option.bind_some, if_neg (by decide)]
      simp only [timesynclaw06_LeapAnnounces.j0]
      rw [if_pos (by decide), if_pos trivial]
      exact awake_at' _ (by decide)
  · rw [if_neg (by rw [decide_eq_false cs]; decide)]
    exact awake_at' _ (by decide)
end Go.Proofs.YtipbkcilpnlgnaaDoor.M
