/-
  What the reference checks is what the program checks: plain lists.
-/
import Derived.Test.YtjhifhnjkpoofaaDoorExtC
namespace Go.Proofs.YtjhifhnjkpoofaaDoor.M
open Go.RowKit Go.Proofs.YtjhifhnjkpoofaaDoorG Go.Proofs.YtjhifhnjkpoofaaDoorW.PrintWords Go.Proofs.YtjhifhnjkpoofaaDoorW.PrintLast Go.Proofs.YtjhifhnjkpoofaaDoorW.PrintMore
set_option linter.unusedVariables false
set_option linter.unusedSimpArgs false
theorem in_eq (n lo hi : Int) : timesyncref50_in.f n lo hi = some (decide (lo ≤ n ∧ n ≤ hi)) := by
  unfold timesyncref50_in.f
  by_cases h : n ≥ lo
  · rw [if_pos h]; congr 1; simp; omega
  · rw [if_neg h]; congr 1; simp; omega
theorem travels_eq (a b c d e f : Int) : timesyncref50_travels.f a b c d e f = some (decide (a = 1 ∨ a = 2)) := by
  unfold timesyncref50_travels.f
  by_cases h1 : a = 1 <;> by_cases h2 : a = 2 <;> simp [h1, h2]
theorem one_eq (k : Nat) (hk : 3 ≤ k) (x : S37) : timesyncref50_one.f k x.f0 x.f1 x.f2 x.f3 x.f4 x.f5 = some (errOf x) := by
  obtain ⟨k, rfl⟩ : ∃ m, k = m + 3 := ⟨k - 3, by omega⟩
  obtain ⟨a, b, c, d, e, f⟩ := x
  unfold errOf
  simp only [timesyncref50_one.f, timesyncref50_one.j0, timesyncref50_one.j1, timesyncref50_one.j2, in_eq, travels_eq, Option.bind_some, decide_eq_true_eq]
  by_cases h0 : 1 ≤ a ∧ a ≤ 4
  · rw [if_neg (by omega : ¬ a < 1), if_neg (by omega : ¬ a > 4), if_neg (not_not_intro h0)]
    by_cases h1 : 0 ≤ b ∧ b ≤ 23
    · rw [if_pos h1]
      by_cases h2 : 0 ≤ c ∧ c ≤ 23
      · rw [if_pos h2]
        by_cases h3 : 0 ≤ d ∧ d ≤ 2147483647
        · rw [if_pos h3]
          by_cases h4 : -4503599627370496 ≤ e ∧ e ≤ 4503599627370496
          · rw [if_pos h4]
            by_cases h5 : -4503599627370496 ≤ f ∧ f ≤ 4503599627370496
            · rw [decide_eq_true h5, if_neg (by decide), if_neg (not_not_intro (show 0 ≤ b ∧ b ≤ 23 ∧ 0 ≤ c ∧ c ≤ 23 ∧ 0 ≤ d ∧ d ≤ 2147483647 ∧ -4503599627370496 ≤ e ∧ e ≤ 4503599627370496 ∧ -4503599627370496 ≤ f ∧ f ≤ 4503599627370496 by omega))]
              rcases (by omega : a = 1 ∨ a = 2 ∨ a = 3 ∨ a = 4) with rfl | rfl | rfl | rfl <;> by_cases h7 : f = 0 <;> by_cases h8 : c = 0 <;> by_cases h9 : d = 0 <;> by_cases h10 : b = c <;> simp [h7, h8, h9, h10] <;> (try (split <;> rfl))
            · rw [decide_eq_false h5, if_pos (by decide), if_pos (by omega)]
          · rw [if_neg h4, if_pos trivial, if_pos (by omega)]
        · rw [if_neg h3, if_pos trivial, if_pos (by omega)]
      · rw [if_neg h2, if_pos trivial, if_pos (by omega)]
    · rw [if_neg h1, if_pos trivial, if_pos (by omega)]
  · rw [if_pos h0]
    by_cases h1 : a < 1
    · rw [if_pos h1, if_pos trivial]
    · rw [if_neg h1, if_pos (by omega : a > 4)]

theorem seen_step (l : List S37) (x : Int) (h0 : 0 ≤ x) (h1 : x < l.length) (k : Int × Int × Int × Int) : seenIn (l.take (x + 1).toNat) k = (seenIn (l.take x.toNat) k || nameOf (rd_T37 l x) == k) := by
  have hl : x.toNat < l.length := by omega
  have e : rd_T37 l x = l[x.toNat] := by simp [rd_T37, List.getD, hl]
  rw [show (x + 1).toNat = x.toNat + 1 by omega, List.take_succ_eq_append_getElem hl, e]
  unfold seenIn
  rw [List.any_append]
  simp only [List.any_cons, List.any_nil, Bool.or_false]
theorem seen_more (l : List S37) (a b : Nat) (h : a ≤ b) (k : Int × Int × Int × Int) (hs : seenIn (l.take a) k = true) : seenIn (l.take b) k = true := by
  unfold seenIn at hs ⊢
  rw [List.any_eq_true] at hs ⊢
  obtain ⟨z, hz, hk⟩ := hs
  refine ⟨z, ?_, hk⟩
  have : l.take a = (l.take b).take a := by rw [List.take_take, Nat.min_eq_left h]
  rw [this] at hz
  exact List.mem_of_mem_take hz
theorem name_ne (z y : S37) (h : ¬ (z.f0 = y.f0 ∧ z.f1 = y.f1 ∧ z.f2 = y.f2 ∧ z.f3 = y.f3)) : (nameOf z == nameOf y) = false := by
  rw [Bool.eq_false_iff]
  intro e
  simp [nameOf] at e
  exact h ⟨e.1, e.2.1, e.2.2.1, e.2.2.2⟩
theorem twice_l0 (l : List S37) (hl : l.length ≤ 512) (i : Int) (hi0 : 0 ≤ i) (hi : i < l.length) : ∀ (d k : Nat) (x : Int), (i - x).toNat = d → 0 ≤ x → x ≤ i → d < k →
    ((rd_T37 l i).f0 = 1 ∨ (rd_T37 l i).f0 = 2 → seenIn (l.take x.toNat) (nameOf (rd_T37 l i)) = false) →
    timesyncref50_twice.l0 k l i x = some (decide ((rd_T37 l i).f0 = 1 ∨ (rd_T37 l i).f0 = 2) && seenIn (l.take i.toNat) (nameOf (rd_T37 l i))) := by
  intro d
  induction d with
  | zero =>
    intro k x hd h0 h1 hk hs
    obtain ⟨k, rfl⟩ : ∃ m, k = m + 1 := ⟨k - 1, by omega⟩
    obtain rfl : x = i := by omega
    simp only [timesyncref50_twice.l0]
    rw [if_neg (by omega)]
    by_cases m : (rd_T37 l x).f0 = 1 ∨ (rd_T37 l x).f0 = 2
    · rw [hs m, Bool.and_false]
    · rw [decide_eq_false m, Bool.false_and]
  | succ d ih =>
    intro k x hd h0 h1 hk hs
    obtain ⟨k, rfl⟩ : ∃ m, k = m + 1 := ⟨k - 1, by omega⟩
    have hx : wrap64 (x + 1) = x + 1 := by unfold wrap64; omega
    simp only [timesyncref50_twice.l0]
    rw [if_pos (by omega), if_pos hi0, if_pos hi, travels_eq, Option.bind_some, hx]
    by_cases m : (rd_T37 l i).f0 = 1 ∨ (rd_T37 l i).f0 = 2
    · have hst := seen_step l x h0 (by omega) (nameOf (rd_T37 l i))
      rw [hs m, Bool.false_or] at hst
      have next : ¬ ((rd_T37 l x).f0 = (rd_T37 l i).f0 ∧ (rd_T37 l x).f1 = (rd_T37 l i).f1 ∧ (rd_T37 l x).f2 = (rd_T37 l i).f2 ∧ (rd_T37 l x).f3 = (rd_T37 l i).f3) →
          timesyncref50_twice.l0 k l i (x + 1) = some (decide ((rd_T37 l i).f0 = 1 ∨ (rd_T37 l i).f0 = 2) && seenIn (l.take i.toNat) (nameOf (rd_T37 l i))) := fun hne =>
        ih k (x + 1) (by omega) (by omega) (by omega) (by omega) (fun _ => by rw [hst, name_ne _ _ hne])
      rw [if_pos (decide_eq_true m), if_pos h0, if_pos (by omega)]
      by_cases e0 : (rd_T37 l x).f0 = (rd_T37 l i).f0
      · rw [if_pos e0]
        by_cases e1 : (rd_T37 l x).f1 = (rd_T37 l i).f1
        · rw [if_pos e1]
          by_cases e2 : (rd_T37 l x).f2 = (rd_T37 l i).f2
          · rw [if_pos e2]
            by_cases e3 : (rd_T37 l x).f3 = (rd_T37 l i).f3
            · rw [if_pos e3, decide_eq_true m, seen_more l (x + 1).toNat i.toNat (by omega) _ (by
                rw [hst]
                have : nameOf (rd_T37 l x) = nameOf (rd_T37 l i) := by unfold nameOf; rw [e0, e1, e2, e3]
                rw [this]; simp)]
              rfl
            · rw [if_neg e3]; exact next (fun h => e3 h.2.2.2)
          · rw [if_neg e2]; exact next (fun h => e2 h.2.2.1)
        · rw [if_neg e1]; exact next (fun h => e1 h.2.1)
      · rw [if_neg e0]; exact next (fun h => e0 h.1)
    · rw [if_neg (by simp [m])]
      exact ih k (x + 1) (by omega) (by omega) (by omega) (by omega) (fun h => absurd h m)
theorem twice_eq (l : List S37) (hl : l.length ≤ 512) (i : Int) (hi0 : 0 ≤ i) (hi : i < l.length) (k : Nat) (hk : l.length < k) :
    timesyncref50_twice.f k l i = some (decide ((rd_T37 l i).f0 = 1 ∨ (rd_T37 l i).f0 = 2) && seenIn (l.take i.toNat) (nameOf (rd_T37 l i))) :=
  twice_l0 l hl i hi0 hi _ k 0 rfl (by omega) hi0 (by omega) (fun _ => rfl)
/-- Whether the clock runs backwards behind what stands before. -/
def backOf (pre : List S37) (y : S37) : Bool := match lastAt pre y.f1 with
  | some b => decide (b.f0 ≠ 3 ∧ y.f4 < b.f4)
  | none => false
theorem back_l0 (l : List S37) (hl : l.length ≤ 512) (i : Int) (hi0 : 0 ≤ i) (hi : i < l.length) : ∀ (d k : Nat) (x : Int), (x + 1).toNat = d → -1 ≤ x → x < i → d < k →
    timesyncref50_back.l0 k l i x = some (backOf (l.take (x + 1).toNat).reverse (rd_T37 l i)) := by
  intro d
  induction d with
  | zero =>
    intro k x hd h0 h1 hk
    obtain ⟨k, rfl⟩ : ∃ m, k = m + 1 := ⟨k - 1, by omega⟩
    obtain rfl : x = -1 := by omega
    simp only [timesyncref50_back.l0]
    rw [if_neg (by omega)]
    rfl
  | succ d ih =>
    intro k x hd h0 h1 hk
    obtain ⟨k, rfl⟩ : ∃ m, k = m + 1 := ⟨k - 1, by omega⟩
    have hx : wrap64 (x - 1) = x - 1 := by unfold wrap64; omega
    simp only [timesyncref50_back.l0]
    rw [if_pos (by omega : x ≥ 0), if_pos (by omega), if_pos (by omega), if_pos hi0, if_pos hi, hx, pre_step l x (by omega) (by omega)]
    unfold backOf lastAt
    rw [List.find?_cons]
    by_cases e1 : (rd_T37 l x).f1 = (rd_T37 l i).f1
    · rw [if_pos e1, beq_iff_eq.mpr e1]
      simp only
      by_cases e2 : (rd_T37 l x).f0 = 3
      · rw [if_pos e2]; simp [e2]
      · rw [if_neg e2]; simp [e2]
    · rw [if_neg e1, beq_eq_false_iff_ne.mpr e1]
      have := ih k (x - 1) (by omega) (by omega) (by omega) (by omega)
      rw [Int.sub_add_cancel] at this
      exact this
theorem back_eq (l : List S37) (hl : l.length ≤ 512) (i : Int) (hi0 : 0 ≤ i) (hi : i < l.length) (k : Nat) (hk : l.length < k) :
    timesyncref50_back.f k l i = some (backOf (l.take i.toNat).reverse (rd_T37 l i)) := by
  unfold timesyncref50_back.f
  have hx : wrap64 (i - 1) = i - 1 := by unfold wrap64; omega
  rw [hx, back_l0 l hl i hi0 hi _ k (i - 1) rfl (by omega) (by omega) (by omega), Int.sub_add_cancel]
theorem seen_rev (l : List S37) (k : Int × Int × Int × Int) : seenIn l.reverse k = seenIn l k := by unfold seenIn; rw [List.any_reverse]
theorem check_l1 (l : List S37) (hl : l.length ≤ 512) : ∀ (d k : Nat) (x : Int), (l.length - x).toNat = d → 0 ≤ x → x ≤ l.length → d + l.length + 2 < k →
    timesyncref50_Check.l1 k l x = some (chkFrom (l.take x.toNat).reverse (l.drop x.toNat)) := by
  intro d
  induction d with
  | zero =>
    intro k x hd h0 h1 hk
    obtain ⟨k, rfl⟩ : ∃ m, k = m + 1 := ⟨k - 1, by omega⟩
    simp only [timesyncref50_Check.l1]
    rw [if_neg (by omega), List.drop_eq_nil_of_le (by omega), chkFrom]
  | succ d ih =>
    intro k x hd h0 h1 hk
    obtain ⟨k, rfl⟩ : ∃ m, k = m + 1 := ⟨k - 1, by omega⟩
    have hx : wrap64 (x + 1) = x + 1 := by unfold wrap64; omega
    have hlt : x < l.length := by omega
    simp only [timesyncref50_Check.l1]
    rw [if_pos hlt, twice_eq l hl x h0 hlt k (by omega), Option.bind_some, back_eq l hl x h0 hlt k (by omega), Option.bind_some, hx, ih k (x + 1) (by omega) (by omega) (by omega) (by omega), chk_step l x h0 hlt, seen_rev]
    unfold backOf
    by_cases m : ((rd_T37 l x).f0 = 1 ∨ (rd_T37 l x).f0 = 2) ∧ seenIn (l.take x.toNat) (nameOf (rd_T37 l x)) = true
    · rw [if_pos m, decide_eq_true m.1, m.2]; rfl
    · rw [if_neg m]
      have hb : (decide ((rd_T37 l x).f0 = 1 ∨ (rd_T37 l x).f0 = 2) && seenIn (l.take x.toNat) (nameOf (rd_T37 l x))) = false := by
        rw [Bool.eq_false_iff]
        intro h
        rw [Bool.and_eq_true, decide_eq_true_eq] at h
        exact m h
      rw [hb, if_neg (by decide)]
      cases lastAt (l.take x.toNat).reverse (rd_T37 l x).f1 with
      | none => rfl
      | some b =>
        simp only [decide_eq_true_eq]
        split <;> rfl
theorem check_l0 (l : List S37) (hl : l.length ≤ 512) : ∀ (d k : Nat) (x : Int), (l.length - x).toNat = d → 0 ≤ x → x ≤ l.length → d + 2 * l.length + 8 < k →
    timesyncref50_Check.l0 k l x = some (if firstErr (l.drop x.toNat) = 0 then chkFrom [] l else firstErr (l.drop x.toNat)) := by
  intro d
  induction d with
  | zero =>
    intro k x hd h0 h1 hk
    obtain ⟨k, rfl⟩ : ∃ m, k = m + 1 := ⟨k - 1, by omega⟩
    simp only [timesyncref50_Check.l0]
    rw [if_neg (by omega), List.drop_eq_nil_of_le (by omega), check_l1 l hl _ k 0 rfl (by omega) (by omega) (by omega)]
    rfl
  | succ d ih =>
    intro k x hd h0 h1 hk
    obtain ⟨k, rfl⟩ : ∃ m, k = m + 1 := ⟨k - 1, by omega⟩
    have hx : wrap64 (x + 1) = x + 1 := by unfold wrap64; omega
    have hlt : x < l.length := by omega
    simp only [timesyncref50_Check.l0]
    rw [if_pos hlt, if_pos h0, one_eq k (by omega), Option.bind_some, hx, ih k (x + 1) (by omega) (by omega) (by omega) (by omega), errs_step l x h0 hlt]
    by_cases e : errOf (rd_T37 l x) = 0
    · rw [if_pos e, if_pos e]
    · rw [if_neg e, if_neg e, if_neg e]
/-- The reference's Check is the program's. -/
theorem refcheck_eq (l : List S37) (k : Nat) (hk : 2000 ≤ k) : timesyncref50_Check.f k l = some (chk l) := by
  unfold timesyncref50_Check.f chk
  by_cases c : l.length > 512
  · rw [if_pos (by omega : (l.length : Int) > 512), if_pos c]
  · rw [if_neg (by omega : ¬ (l.length : Int) > 512), if_neg c, check_l0 l (by omega) _ k 0 rfl (by omega) (by omega) (by omega)]
    rfl
end Go.Proofs.YtjhifhnjkpoofaaDoor.M
