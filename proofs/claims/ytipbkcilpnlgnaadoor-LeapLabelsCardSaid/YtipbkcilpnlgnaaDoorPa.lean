/-
  leap.Check, count, changes, old, TAI, UTC, Offset, plain: what the printed functions reckon, over lists.
-/
import Derived.Test.YtipbkcilpnlgnaaDoorMC
import Derived.Test.YtipbkcilpnlgnaaDoorPb
import Derived.Test.YtipbkcilpnlgnaaDoorExtS
namespace Go.Proofs.YtipbkcilpnlgnaaDoor.M
open Go.RowKit Go.Proofs.YtipbkcilpnlgnaaDoorG Go.Proofs.YtipbkcilpnlgnaaDoorW.PA Go.Proofs.YtipbkcilpnlgnaaDoorW.PB Go.Proofs.YtipbkcilpnlgnaaDoorW.PC
set_option linter.unusedVariables false
set_option linter.unusedSimpArgs false
/-! the month of a second, or the next -/
theorem of_total (s : Int) : ∃ r, civil_Of.f s = some r := by
  unfold civil_Of.f
  split
  · exact ⟨_, rfl⟩
  · split <;> exact ⟨_, rfl⟩
theorem sec_total (y m d h mi s n : Int) : ∃ r, civil_Seconds.f y m d h mi s n = some r := by
  unfold civil_Seconds.f
  split
  · split <;> exact ⟨_, rfl⟩
  · exact ⟨_, rfl⟩
theorem month_total (u n : Int) : ∃ r, leap_month.f u n = some r := by
  unfold leap_month.f
  obtain ⟨r, hr⟩ := of_total u
  rw [hr, Option.bind_some]
  split
  · split
    · obtain ⟨q, hq⟩ := sec_total (wrap64 (r.1 + 1)) 1 1 0 0 0 0
      rw [hq]; exact ⟨_, rfl⟩
    · obtain ⟨q, hq⟩ := sec_total r.1 (wrap64 (r.2.1 + n)) 1 0 0 0 0
      rw [hq]; exact ⟨_, rfl⟩
  · exact ⟨_, rfl⟩
def mon (u n : Int) : Int × Bool := (leap_month.f u n).getD (0, false)
theorem month_eq (u n : Int) : leap_month.f u n = some (mon u n) := by
  obtain ⟨r, hr⟩ := month_total u n
  unfold mon
  rw [hr]; rfl
/-! old -/
def oldAt (b : Int) (l : List S44) (i : Nat) : Int := match i with
  | 0 => b
  | i + 1 => (rd_T44 l i).f1
theorem old_eq (b e : Int) (l : List S44) (i : Nat) (h : i ≤ l.length) (hl : l.length ≤ 1000) : leap_old.f b e l i = some (oldAt b l i) := by
  unfold leap_old.f
  cases i with
  | zero => rw [if_pos (by rfl)]; rfl
  | succ i =>
    have hw : wrap64 (((i + 1 : Nat) : Int) - 1) = (i : Int) := by unfold wrap64; omega
    rw [if_neg (by omega), hw, if_pos (by omega), if_pos (by omega)]
    rfl
theorem rd_drop (l : List S44) (i : Nat) (x : S44) (t : List S44) (h : l.drop i = x :: t) : rd_T44 l (i : Int) = x ∧ i < l.length ∧ l.drop (i + 1) = t := by
  have hlt : i < l.length := by
    rcases Nat.lt_or_ge i l.length with h1 | h1
    · exact h1
    · rw [List.drop_eq_nil_of_le h1] at h; cases h
  rw [List.drop_eq_getElem_cons hlt] at h
  injection h with h1 h2
  refine ⟨?_, hlt, h2⟩
  simp [rd_T44, List.getD, hlt, h1]
/-! Check -/
/-- The second loop: prev is the entry before. -/
def chkL (b : Int) (prev : Option Int) : List S44 → Int
  | [] => 0
  | x :: t =>
    if mon x.f0 0 ≠ (x.f0, true) then 7
    else if ∃ p, prev = some p ∧ x.f0 ≤ p then 12
    else if x.f1 - b = 1 ∨ x.f1 - b = -1 then chkL x.f1 (some x.f0) t
    else 3
instance (b e : Int) (l : List S44) : Decidable ((-1000 ≤ b ∧ b ≤ 1000) ∧ (-8000000000 ≤ e ∧ e ≤ 8000000000) ∧ ∀ x ∈ l, (-8000000000 ≤ x.f0 ∧ x.f0 ≤ 8000000000) ∧ (-1000 ≤ x.f1 ∧ x.f1 ≤ 1000)) := inferInstance
def chk (b e : Int) (l : List S44) : Int :=
  if l.length > 64 then 6
  else if (-1000 ≤ b ∧ b ≤ 1000) ∧ (-8000000000 ≤ e ∧ e ≤ 8000000000) ∧ ∀ x ∈ l, (-8000000000 ≤ x.f0 ∧ x.f0 ≤ 8000000000) ∧ (-1000 ≤ x.f1 ∧ x.f1 ≤ 1000) then chkL b none l
  else 3
theorem l1_eq (b e : Int) (l : List S44) (hl : l.length ≤ 64) (hE : ∀ x ∈ l, EntOk x) (hb : -1000 ≤ b ∧ b ≤ 1000) : ∀ (t : List S44) (i k : Nat), l.drop i = t → 4 * t.length + 4 ≤ k → i ≤ l.length →
    leap_Check.l1 k l (l.length : Int) i b e l = some (chkL (oldAt b l i) (match i with | 0 => none | i + 1 => some (rd_T44 l i).f0) t)
  | [], i, k, hd, hk, hi => by
    obtain ⟨k, rfl⟩ : ∃ j, k = j + 1 := ⟨k - 1, by omega⟩
    have : l.length ≤ i := by
      have := congrArg List.length hd
      rw [List.length_drop] at this
      simp only [List.length_nil] at this
      omega
    simp only [leap_Check.l1]
    rw [if_neg (by omega)]
    rfl
  | x :: t, i, k, hd, hk, hi => by
    obtain ⟨k, rfl⟩ : ∃ j, k = j + 4 := ⟨k - 4, by simp only [List.length_cons] at hk; omega⟩
    obtain ⟨hx, hlt, hd2⟩ := rd_drop l i x t hd
    have hxm : x ∈ l := List.mem_of_mem_drop (by rw [hd]; exact List.mem_cons_self)
    have hxe := hE x hxm
    have hob : -1000 ≤ oldAt b l i ∧ oldAt b l i ≤ 1000 := by
      cases i with
      | zero => exact hb
      | succ j => exact (hE _ (mem_rd (by omega) (by omega))).2
    have ih := l1_eq b e l hl hE hb t (i + 1) (k + 1) hd2 (by simp only [List.length_cons] at hk; omega) hlt
    have hw1 : wrap64 ((i : Int) + 1) = ((i + 1 : Nat) : Int) := by unfold wrap64; omega
    have hold := old_eq b e l i (by omega) (by omega)
    have hj4 : ∀ (x89 : Bool), leap_Check.j4 (k + 2) (i : Int) l (l.length : Int) i x89 b e l x.f0 x.f1 = some (if x89 = true then 12 else if x.f1 - oldAt b l i = 1 ∨ x.f1 - oldAt b l i = -1 then chkL x.f1 (some x.f0) t else 3) := by
      intro x89
      simp only [leap_Check.j4]
      cases x89 with
      | true => rfl
      | false =>
        rw [if_neg (show ¬ (false = true) by decide), if_neg (show ¬ (false = true) by decide), hold, Option.bind_some]
        have hw : wrap64 (x.f1 - oldAt b l i) = x.f1 - oldAt b l i := by have := hxe.2; unfold wrap64; omega
        rw [hw, hw1, ih]
        have hnx : oldAt b l (i + 1) = x.f1 := by show (rd_T44 l i).f1 = _; rw [hx]
        rw [hnx]
        simp only [hx]
        by_cases c1 : x.f1 - oldAt b l i = 1
        · rw [if_pos c1, if_pos (Or.inl c1)]
        · rw [if_neg c1]
          by_cases c2 : x.f1 - oldAt b l i = -1
          · rw [if_pos c2, if_pos (Or.inr c2)]
          · rw [if_neg c2, if_neg (by omega)]
    have hj3 : ∀ (x75 : Bool), leap_Check.j3 (k + 3) (i : Int) l (l.length : Int) i x75 b e l x.f0 x.f1 = some (if x75 = true then 7 else if ∃ p, (match i with | 0 => none | i + 1 => some (rd_T44 l i).f0) = some p ∧ x.f0 ≤ p then 12 else if x.f1 - oldAt b l i = 1 ∨ x.f1 - oldAt b l i = -1 then chkL x.f1 (some x.f0) t else 3) := by
      intro x75
      simp only [leap_Check.j3]
      cases x75 with
      | true => rfl
      | false =>
        rw [if_neg (show ¬ (false = true) by decide), if_neg (show ¬ (false = true) by decide)]
        cases i with
        | zero =>
          rw [if_neg (show ¬ (((0 : Nat) : Int) > 0) by omega), hj4 false, if_neg (show ¬ (false = true) by decide), if_neg (show ¬ ∃ p, (none : Option Int) = some p ∧ x.f0 ≤ p by rintro ⟨p, h, _⟩; cases h)]
        | succ j =>
          have hwj : wrap64 (((j + 1 : Nat) : Int) - 1) = (j : Int) := by unfold wrap64; omega
          rw [if_pos (show ((j + 1 : Nat) : Int) > 0 by omega), hwj, if_pos (show (0 : Int) ≤ (j : Int) by omega), if_pos (show (j : Int) < (l.length : Int) by omega), hj4]
          by_cases c : x.f0 ≤ (rd_T44 l j).f0
          · rw [if_pos (decide_eq_true c), if_pos ⟨_, rfl, c⟩]
          · rw [if_neg (by rw [decide_eq_false c]; decide), if_neg (show ¬ ∃ p, some (rd_T44 l j).f0 = some p ∧ x.f0 ≤ p by rintro ⟨p, h, hp⟩; cases h; exact c hp)]
    simp only [leap_Check.l1]
    rw [if_pos (by omega), if_pos (by omega), if_pos (by omega), month_eq, Option.bind_some, hx]
    rw [chkL]
    by_cases c : (mon x.f0 0).2 = true
    · rw [if_pos c, hj3]
      by_cases c2 : (mon x.f0 0).1 = x.f0
      · have hm : mon x.f0 0 = (x.f0, true) := Prod.ext c2 c
        rw [if_neg (by rw [c2]; simp), if_neg (show ¬ mon x.f0 0 ≠ (x.f0, true) from fun h => h hm)]
      · rw [if_pos (by simpa using c2), if_pos (fun h => c2 (by rw [h]))]
    · rw [if_neg c, hj3, if_pos rfl, if_pos (fun h => c (by rw [h]))]
theorem l0_eq (b e : Int) (l : List S44) (hl : l.length ≤ 64) : ∀ (t : List S44) (i k : Nat) (g : Bool), l.drop i = t → t.length + 1 ≤ k → i ≤ l.length →
    leap_Check.l0 k g l (l.length : Int) i b e l = if g = true ∧ ∀ x ∈ t, (-8000000000 ≤ x.f0 ∧ x.f0 ≤ 8000000000) ∧ (-1000 ≤ x.f1 ∧ x.f1 ≤ 1000) then leap_Check.l1 (k - 1 - t.length) l (l.length : Int) 0 b e l else some 3
  | [], i, k, g, hd, hk, hi => by
    obtain ⟨k, rfl⟩ : ∃ j, k = j + 1 := ⟨k - 1, by omega⟩
    have : l.length ≤ i := by
      have := congrArg List.length hd
      rw [List.length_drop] at this
      simp only [List.length_nil] at this
      omega
    simp only [leap_Check.l0]
    rw [if_neg (by omega)]
    cases g with
    | true => rw [if_pos rfl, if_pos ⟨rfl, fun x h => by cases h⟩]; simp
    | false => rw [if_neg (by decide), if_neg (fun h => by cases h.1)]
  | x :: t, i, k, g, hd, hk, hi => by
    obtain ⟨k, rfl⟩ : ∃ j, k = j + 1 := ⟨k - 1, by omega⟩
    obtain ⟨hx, hlt, hd2⟩ := rd_drop l i x t hd
    have hw1 : wrap64 ((i : Int) + 1) = ((i + 1 : Nat) : Int) := by unfold wrap64; omega
    have ih := fun g => l0_eq b e l hl t (i + 1) k g hd2 (by simp only [List.length_cons] at hk; omega) hlt
    simp only [leap_Check.l0]
    rw [if_pos (by omega), if_pos (by omega), if_pos (by omega), hx, hw1]
    have hfin : ∀ (g' : Bool), (g' = true ↔ g = true ∧ (-8000000000 ≤ x.f0 ∧ x.f0 ≤ 8000000000) ∧ (-1000 ≤ x.f1 ∧ x.f1 ≤ 1000)) → leap_Check.l0 k g' l (l.length : Int) ((i + 1 : Nat) : Int) b e l = if g = true ∧ ∀ y ∈ x :: t, (-8000000000 ≤ y.f0 ∧ y.f0 ≤ 8000000000) ∧ (-1000 ≤ y.f1 ∧ y.f1 ≤ 1000) then leap_Check.l1 (k + 1 - 1 - (x :: t).length) l (l.length : Int) 0 b e l else some 3 := by
      intro g' hg
      rw [ih g']
      have e1 : k + 1 - 1 - (x :: t).length = k - 1 - t.length := by simp only [List.length_cons]; omega
      rw [e1]
      by_cases c : g' = true ∧ ∀ y ∈ t, (-8000000000 ≤ y.f0 ∧ y.f0 ≤ 8000000000) ∧ (-1000 ≤ y.f1 ∧ y.f1 ≤ 1000)
      · have c1 := hg.1 c.1
        rw [if_pos c, if_pos ⟨c1.1, fun y hy => by rcases List.mem_cons.1 hy with rfl | hy; exact c1.2; exact c.2 y hy⟩]
      · rw [if_neg c, if_neg (fun h => c ⟨hg.2 ⟨h.1, h.2 x List.mem_cons_self⟩, fun y hy => h.2 y (List.mem_cons_of_mem _ hy)⟩)]
    cases g with
    | true =>
      rw [if_pos rfl, inside_eq, Option.bind_some]
      by_cases c1 : -8000000000 ≤ x.f0 ∧ x.f0 ≤ 8000000000
      · rw [if_pos (decide_eq_true c1)]
        by_cases c2 : x.f1 ≥ -1000
        · rw [if_pos c2]
          exact hfin _ (by rw [decide_eq_true_iff]; exact ⟨fun h => ⟨rfl, c1, c2, h⟩, fun h => h.2.2.2⟩)
        · rw [if_neg c2]
          exact hfin _ ⟨fun h => (by cases h), fun h => (c2 h.2.2.1).elim⟩
      · rw [if_neg (by rw [decide_eq_false c1]; decide)]
        exact hfin _ ⟨fun h => (by cases h), fun h => (c1 h.2.1).elim⟩
    | false =>
      rw [if_neg (by decide)]
      exact hfin _ ⟨fun h => (by cases h), fun h => (by cases h.1)⟩
theorem check_eq (k : Nat) (hk : 400 ≤ k) (b e : Int) (l : List S44) : leap_Check.f k b e l = some (chk b e l) := by
  unfold leap_Check.f chk
  by_cases c : (l.length : Int) > 64
  · rw [if_pos c, if_pos (by omega)]
  · rw [if_neg c, if_neg (show ¬ l.length > 64 by omega)]
    have hl : l.length ≤ 64 := by omega
    obtain ⟨k, rfl⟩ : ∃ j, k = j + 1 := ⟨k - 1, by omega⟩
    have hj : ∀ g : Bool, leap_Check.j0 (k + 1) g b e l = if g = true ∧ ∀ x ∈ l, (-8000000000 ≤ x.f0 ∧ x.f0 ≤ 8000000000) ∧ (-1000 ≤ x.f1 ∧ x.f1 ≤ 1000) then leap_Check.l1 (k - 1 - l.length) l (l.length : Int) 0 b e l else some 3 := fun g => by
      simp only [leap_Check.j0]
      exact l0_eq b e l hl l 0 k g rfl (by omega) (by omega)
    by_cases c1 : b ≥ -1000
    · rw [if_pos c1]
      by_cases c2 : b ≤ 1000
      · rw [if_pos c2, inside_eq, Option.bind_some, hj]
        by_cases c3 : (-8000000000 ≤ e ∧ e ≤ 8000000000) ∧ ∀ x ∈ l, (-8000000000 ≤ x.f0 ∧ x.f0 ≤ 8000000000) ∧ (-1000 ≤ x.f1 ∧ x.f1 ≤ 1000)
        · rw [if_pos ⟨decide_eq_true c3.1, c3.2⟩, if_pos ⟨⟨c1, c2⟩, c3⟩]
          exact l1_eq b e l hl (fun x hx => c3.2 x hx) ⟨c1, c2⟩ l 0 _ rfl (by omega) (by omega)
        · rw [if_neg (fun h => c3 ⟨of_decide_eq_true h.1, h.2⟩), if_neg (fun h => c3 h.2)]
      · rw [if_neg c2, hj, if_neg (fun h => by cases h.1), if_neg (fun h => c2 h.1.2)]
    · rw [if_neg c1, hj, if_neg (fun h => by cases h.1), if_neg (fun h => c1 h.1.1)]
end Go.Proofs.YtipbkcilpnlgnaaDoor.M
