/-
  leap.TAI, leap.UTC, leap.Offset, plain: by recursion over the entries.
-/
/-
  A valid table's entries stand a day apart at least: its labels and its seconds are one to one, and follow one another.
-/
import Derived.Test.YtipbkcilpnlgnaaDoorPa
section
namespace Go.Proofs.YtipbkcilpnlgnaaDoor.M
open Go.RowKit Go.Proofs.YtipbkcilpnlgnaaDoorG Go.Proofs.YtipbkcilpnlgnaaDoorW.PA Go.Proofs.YtipbkcilpnlgnaaDoorW.PB Go.Proofs.YtipbkcilpnlgnaaDoorW.PC
set_option linter.unusedVariables false
set_option linter.unusedSimpArgs false
theorem chk_ok {b e : Int} {l : List S44} (h : chk b e l = 0) : l.length ≤ 64 ∧ (-1000 ≤ b ∧ b ≤ 1000) ∧ (-8000000000 ≤ e ∧ e ≤ 8000000000) ∧ (∀ x ∈ l, EntOk x) ∧ chkL b none l = 0 := by
  unfold chk at h
  split at h
  · cases h
  · split at h
    · rename_i h1 h2
      exact ⟨by omega, h2.1, h2.2.1, h2.2.2, h⟩
    · cases h
def cnt : List S44 → Int → Nat
  | [], _ => 0
  | e :: t, u => if e.f0 ≤ u then cnt t u + 1 else 0
def offR (o : Int) : List S44 → Int → Int
  | [], _ => o
  | e :: t, u => if e.f0 ≤ u then offR e.f1 t u else o
theorem cnt_le : ∀ (l : List S44) (u : Int), cnt l u ≤ l.length
  | [], _ => Nat.le_refl _
  | e :: t, u => by
    have := cnt_le t u
    unfold cnt
    split
    · simp only [List.length_cons]; omega
    · omega
theorem count_l0 (b e : Int) (l : List S44) (hl : l.length ≤ 1000) (u : Int) : ∀ (t : List S44) (i k : Nat), l.drop i = t → t.length + 1 ≤ k → i ≤ l.length → leap_count.l0 k u i b e l = some (((i + cnt t u : Nat)) : Int)
  | [], i, k, hd, hk, hi => by
    obtain ⟨k, rfl⟩ : ∃ j, k = j + 1 := ⟨k - 1, by omega⟩
    have : l.length ≤ i := by
      have := congrArg List.length hd
      rw [List.length_drop] at this
      simp only [List.length_nil] at this
      omega
    simp only [leap_count.l0]
    rw [if_neg (by omega)]
    rfl
  | x :: t, i, k, hd, hk, hi => by
    obtain ⟨k, rfl⟩ : ∃ j, k = j + 1 := ⟨k - 1, by omega⟩
    obtain ⟨hx, hlt, hd2⟩ := rd_drop l i x t hd
    have hw1 : wrap64 ((i : Int) + 1) = ((i + 1 : Nat) : Int) := by unfold wrap64; omega
    simp only [leap_count.l0]
    rw [if_pos (by omega), if_pos (by omega), hx, hw1]
    unfold cnt
    by_cases c : x.f0 ≤ u
    · rw [if_pos c, if_pos c, count_l0 b e l hl u t (i + 1) k hd2 (by simp only [List.length_cons] at hk; omega) hlt]
      congr 2; omega
    · rw [if_neg c, if_neg c]; rfl
theorem count_eq (k : Nat) (hk : 100 ≤ k) (b e : Int) (l : List S44) (hl : l.length ≤ 64) (u : Int) : leap_count.f k b e l u = some ((cnt l u : Nat) : Int) := by
  unfold leap_count.f
  have := count_l0 b e l (by omega) u l 0 k rfl (by omega) (by omega)
  rw [Nat.zero_add] at this
  exact this
theorem oldAt_cnt (b : Int) (l : List S44) (u : Int) : ∀ (t : List S44) (i : Nat), l.drop i = t → oldAt b l (i + cnt t u) = offR (oldAt b l i) t u
  | [], i, hd => rfl
  | x :: t, i, hd => by
    obtain ⟨hx, hlt, hd2⟩ := rd_drop l i x t hd
    unfold cnt offR
    by_cases c : x.f0 ≤ u
    · rw [if_pos c, if_pos c, show i + (cnt t u + 1) = (i + 1) + cnt t u by omega, oldAt_cnt b l u t (i + 1) hd2]
      show offR (rd_T44 l i).f1 t u = _
      rw [hx]
    · rw [if_neg c, if_neg c]; rfl
theorem off_eq (k : Nat) (hk : 400 ≤ k) (b e : Int) (l : List S44) (hc : chk b e l = 0) (u : Int) : leap_Offset.f k b e l u = some (offR b l u) := by
  obtain ⟨h1, h2, h3, h4, h5⟩ := chk_ok hc
  unfold leap_Offset.f
  rw [check_eq k hk, Option.bind_some, if_pos hc, count_eq k (by omega) b e l h1, Option.bind_some, old_eq b e l _ (cnt_le l u) (by omega), Option.bind_some]
  have := oldAt_cnt b l u l 0 rfl
  rw [Nat.zero_add] at this
  rw [this]; rfl
/-! TAI -/
def taiF (o : Int) (r : List S44) (u : Int) (x : Bool) : Option Int := match r with
  | [] => if x = true then none else some (u + o)
  | e :: _ => if x = true then (if e.f0 = u + 1 ∧ e.f1 - o = 1 then some (u + o + 1) else none) else (if e.f0 = u + 1 ∧ e.f1 - o = -1 then none else some (u + o))
def taiR (o : Int) : List S44 → Int → Bool → Option Int
  | [], u, x => taiF o [] u x
  | e :: t, u, x => if e.f0 ≤ u then taiR e.f1 t u x else taiF o (e :: t) u x
theorem taiR_eq : ∀ (l : List S44) (o u : Int) (x : Bool), taiR o l u x = taiF (offR o l u) (l.drop (cnt l u)) u x
  | [], o, u, x => rfl
  | e :: t, o, u, x => by
    unfold taiR offR cnt
    by_cases c : e.f0 ≤ u
    · rw [if_pos c, if_pos c, if_pos c, taiR_eq t]; rfl
    · rw [if_neg c, if_neg c, if_neg c]; rfl
def tai (b : Int) (l : List S44) (u : Int) (x : Bool) : Int × Int :=
  if -8000000000 ≤ u ∧ u ≤ 8000000000 then (match taiR b l u x with | some T => (T, 0) | none => (0, 11)) else (0, 3)
theorem offR_b {b : Int} {l : List S44} (hb : -1000 ≤ b ∧ b ≤ 1000) (hE : ∀ x ∈ l, EntOk x) (u : Int) : -1000 ≤ offR b l u ∧ offR b l u ≤ 1000 := by
  induction l generalizing b with
  | nil => exact hb
  | cons e t ih =>
    unfold offR
    split
    · exact ih (hE e List.mem_cons_self).2 (fun x hx => hE x (List.mem_cons_of_mem _ hx))
    · exact hb
theorem tai_eq (k : Nat) (hk : 400 ≤ k) (b e : Int) (l : List S44) (hc : chk b e l = 0) (u : Int) (x : Bool) : leap_TAI.f k b e l u x = some (tai b l u x) := by
  obtain ⟨h1, h2, h3, h4, h5⟩ := chk_ok hc
  obtain ⟨k, rfl⟩ : ∃ j, k = j + 1 := ⟨k - 1, by omega⟩
  unfold leap_TAI.f tai
  rw [check_eq _ hk, Option.bind_some, if_pos hc, inside_eq, Option.bind_some]
  by_cases c : -8000000000 ≤ u ∧ u ≤ 8000000000
  · rw [if_pos (decide_eq_true c), if_pos c]
    have ho := offR_b h2 h4 u
    have hold := old_eq b e l (cnt l u) (cnt_le l u) (by omega)
    have hoc := oldAt_cnt b l u l 0 rfl
    rw [Nat.zero_add] at hoc
    rw [show oldAt b l 0 = b from rfl] at hoc
    rw [hoc] at hold
    have hw : wrap64 (u + offR b l u) = u + offR b l u := by unfold wrap64; omega
    have hw2 : wrap64 (u + offR b l u + 1) = u + offR b l u + 1 := by unfold wrap64; omega
    have hw3 : wrap64 (u + 1) = u + 1 := by unfold wrap64; omega
    have hch : ∃ ch : Int, leap_changes.f (k + 1) b e l u = some ch ∧ (∀ T, taiR b l u true = some T ↔ ch = 1 ∧ T = u + offR b l u + 1) ∧ (∀ T, taiR b l u false = some T ↔ ch ≠ -1 ∧ T = u + offR b l u) := by
      unfold leap_changes.f
      rw [count_eq _ (by omega) b e l h1, Option.bind_some]
      have hcl := cnt_le l u
      by_cases cn : cnt l u = l.length
      · refine ⟨0, by rw [if_pos (by omega)], ?_, ?_⟩
        · intro T
          rw [taiR_eq, cn, List.drop_length]
          simp [taiF]
        · intro T
          rw [taiR_eq, cn, List.drop_length]
          simp [taiF, eq_comm]
      · have hlt : cnt l u < l.length := by omega
        rw [if_neg (by omega), if_pos (by omega), if_pos (by omega), hw3]
        have hd : l.drop (cnt l u) = l[cnt l u] :: l.drop (cnt l u + 1) := List.drop_eq_getElem_cons hlt
        obtain ⟨hx, -, -⟩ := rd_drop l _ _ _ hd
        rw [hx]
        generalize hy : l[cnt l u] = y at *
        have hym := (h4 y (by rw [← hy]; exact List.getElem_mem hlt)).2
        by_cases cy : y.f0 = u + 1
        · rw [if_pos cy, hold, Option.bind_some]
          have hw4 : wrap64 (y.f1 - offR b l u) = y.f1 - offR b l u := by unfold wrap64; omega
          rw [hw4]
          refine ⟨_, rfl, ?_, ?_⟩
          · intro T
            rw [taiR_eq, hd]
            simp only [taiF, if_true, cy, true_and]
            by_cases c1 : y.f1 - offR b l u = 1
            · rw [if_pos c1]; simp [c1, eq_comm]
            · rw [if_neg c1]; simp [c1]
          · intro T
            rw [taiR_eq, hd]
            simp only [taiF, Bool.false_eq_true, if_false, cy, true_and]
            by_cases c1 : y.f1 - offR b l u = -1
            · rw [if_pos c1]; simp [c1]
            · rw [if_neg c1]; simp [c1, eq_comm]
        · rw [if_neg cy]
          refine ⟨0, rfl, ?_, ?_⟩
          · intro T
            rw [taiR_eq, hd]
            simp [taiF, cy]
          · intro T
            rw [taiR_eq, hd]
            simp [taiF, cy, eq_comm]
    obtain ⟨ch, hch, ht, hf⟩ := hch
    rw [hch, Option.bind_some, count_eq _ (by omega) b e l h1, Option.bind_some, hold, Option.bind_some, hw]
    cases x with
    | true =>
      rw [if_pos rfl]
      simp only [leap_TAI.j0]
      by_cases c1 : ch = 1
      · rw [if_pos (beq_iff_eq.mpr c1), hw2, (ht _).2 ⟨c1, rfl⟩]
      · rw [if_neg (by simpa using c1), if_pos trivial]
        cases hr : taiR b l u true with
        | none => rfl
        | some T => exact (c1 ((ht T).1 hr).1).elim
    | false =>
      rw [if_neg (by decide)]
      simp only [leap_TAI.j0]
      rw [if_neg (by decide), if_neg (by decide)]
      by_cases c1 : ch = -1
      · rw [if_pos c1]
        cases hr : taiR b l u false with
        | none => rfl
        | some T => exact (((hf T).1 hr).1 c1).elim
      · rw [if_neg c1, (hf _).2 ⟨c1, rfl⟩]
  · rw [if_neg (by rw [decide_eq_false c]; decide), if_neg c]
/-! UTC -/
def utcR (o : Int) : List S44 → Int → Int × Bool
  | [], T => (T - o, false)
  | e :: t, T => if T < e.f0 + e.f1 then (if e.f1 > o ∧ T = e.f0 + e.f1 - 1 then (e.f0 - 1, true) else (T - o, false)) else utcR e.f1 t T
def utc (b : Int) (l : List S44) (T : Int) : Int × Bool × Int :=
  if T < -8000002000 ∨ T > 8000002000 then (0, false, 3)
  else if -8000000000 ≤ (utcR b l T).1 ∧ (utcR b l T).1 ≤ 8000000000 then ((utcR b l T).1, (utcR b l T).2, 0) else (0, false, 3)
theorem j2_eq (k : Nat) (T o u : Int) (x : Bool) (hT : -8000002000 ≤ T ∧ T ≤ 8000002000) (ho : -1000 ≤ o ∧ o ≤ 1000) : leap_UTC.j2 (k + 1) T o u x = some (if -8000000000 ≤ (if x = true then u else T - o) ∧ (if x = true then u else T - o) ≤ 8000000000 then ((if x = true then u else T - o), x, 0) else (0, false, 3)) := by
  have hw : wrap64 (T - o) = T - o := by unfold wrap64; omega
  simp only [leap_UTC.j2, hw]
  cases x with
  | true =>
    simp only [if_true]
    rw [inside_eq, Option.bind_some]
    by_cases c : -8000000000 ≤ u ∧ u ≤ 8000000000
    · rw [if_pos (decide_eq_true c), if_pos c]
    · rw [if_neg (by rw [decide_eq_false c]; decide), if_neg c]
  | false =>
    simp only [Bool.false_eq_true, if_false]
    rw [inside_eq, Option.bind_some]
    by_cases c : -8000000000 ≤ T - o ∧ T - o ≤ 8000000000
    · rw [if_pos (decide_eq_true c), if_pos c]
    · rw [if_neg (by rw [decide_eq_false c]; decide), if_neg c]
theorem utc_l0 (l : List S44) (hl : l.length ≤ 64) (hE : ∀ x ∈ l, EntOk x) (T u0 : Int) (hT : -8000002000 ≤ T ∧ T ≤ 8000002000) : ∀ (t : List S44) (i k : Nat) (o : Int), l.drop i = t → t.length + 2 ≤ k → i ≤ l.length → (-1000 ≤ o ∧ o ≤ 1000) →
    leap_UTC.l0 k T o u0 false l (l.length : Int) i = some (if -8000000000 ≤ (utcR o t T).1 ∧ (utcR o t T).1 ≤ 8000000000 then ((utcR o t T).1, (utcR o t T).2, 0) else (0, false, 3))
  | [], i, k, o, hd, hk, hi, ho => by
    obtain ⟨k, rfl⟩ : ∃ j, k = j + 2 := ⟨k - 2, by simp only [List.length_nil] at hk; omega⟩
    have : l.length ≤ i := by
      have := congrArg List.length hd
      rw [List.length_drop] at this
      simp only [List.length_nil] at this
      omega
    simp only [leap_UTC.l0]
    rw [if_neg (by omega), j2_eq k T o u0 false hT ho]
    simp only [Bool.false_eq_true, if_false, utcR]
    rfl
  | x :: t, i, k, o, hd, hk, hi, ho => by
    obtain ⟨k, rfl⟩ : ∃ j, k = j + 2 := ⟨k - 2, by simp only [List.length_cons] at hk; omega⟩
    obtain ⟨hx, hlt, hd2⟩ := rd_drop l i x t hd
    have hxe := hE x (List.mem_of_mem_drop (by rw [hd]; exact List.mem_cons_self))
    have hw1 : wrap64 ((i : Int) + 1) = ((i + 1 : Nat) : Int) := by unfold wrap64; omega
    have hw2 : wrap64 (x.f0 + x.f1) = x.f0 + x.f1 := by have := hxe.1; have := hxe.2; unfold wrap64; omega
    have hw3 : wrap64 (x.f0 + x.f1 - 1) = x.f0 + x.f1 - 1 := by have := hxe.1; have := hxe.2; unfold wrap64; omega
    have hw4 : wrap64 (x.f0 - 1) = x.f0 - 1 := by have := hxe.1; unfold wrap64; omega
    simp only [leap_UTC.l0]
    rw [if_pos (by omega), if_pos (by omega), if_pos (by omega), hx, hw1, hw2, hw3, hw4]
    unfold utcR
    by_cases c : T < x.f0 + x.f1
    · rw [if_pos c, if_pos c]
      by_cases c2 : x.f1 > o
      · rw [if_pos c2, j2_eq k T o _ _ hT ho]
        by_cases c3 : T = x.f0 + x.f1 - 1
        · rw [if_pos (show x.f1 > o ∧ T = x.f0 + x.f1 - 1 from ⟨c2, c3⟩), beq_iff_eq.mpr c3]; simp only [if_true]
        · rw [if_neg (show ¬ (x.f1 > o ∧ T = x.f0 + x.f1 - 1) from fun h => c3 h.2), beq_eq_false_iff_ne.mpr c3]; simp only [Bool.false_eq_true, if_false]
      · rw [if_neg c2, j2_eq k T o _ _ hT ho, if_neg (show ¬ (x.f1 > o ∧ T = x.f0 + x.f1 - 1) from fun h => c2 h.1)]; simp only [Bool.false_eq_true, if_false]
    · rw [if_neg c, if_neg c]
      exact utc_l0 l hl hE T u0 hT t (i + 1) (k + 1) x.f1 hd2 (by simp only [List.length_cons] at hk; omega) hlt hxe.2
theorem utc_eq (k : Nat) (hk : 400 ≤ k) (b e : Int) (l : List S44) (hc : chk b e l = 0) (T : Int) : leap_UTC.f k b e l T = some (utc b l T) := by
  obtain ⟨h1, h2, h3, h4, h5⟩ := chk_ok hc
  obtain ⟨k, rfl⟩ : ∃ j, k = j + 1 := ⟨k - 1, by omega⟩
  unfold leap_UTC.f utc
  rw [check_eq _ hk, Option.bind_some, if_pos hc]
  by_cases c1 : T < -8000002000
  · rw [if_pos c1, if_pos (Or.inl c1)]
    simp [leap_UTC.j0]
  · rw [if_neg c1]
    by_cases c2 : T > 8000002000
    · rw [if_pos (Or.inr c2)]
      simp [leap_UTC.j0, c2]
    · rw [if_neg (show ¬ (T < -8000002000 ∨ T > 8000002000) by omega)]
      simp only [leap_UTC.j0]
      rw [if_neg (by simpa using c2)]
      exact utc_l0 l h1 h4 T 0 ⟨by omega, by omega⟩ l 0 k b rfl (by omega) (by omega) h2
end Go.Proofs.YtipbkcilpnlgnaaDoor.M
end
section
namespace Go.Proofs.YtipbkcilpnlgnaaDoor.M
open Go.RowKit Go.Proofs.YtipbkcilpnlgnaaDoorG Go.Proofs.YtipbkcilpnlgnaaDoorW.PA Go.Proofs.YtipbkcilpnlgnaaDoorW.PB Go.Proofs.YtipbkcilpnlgnaaDoorW.PC
set_option linter.unusedVariables false
set_option linter.unusedSimpArgs false
theorem sec_mult (y m : Int) (r : Int × Int) (h : civil_Seconds.f y m 1 0 0 0 0 = some r) (h0 : r.2 = 0) : r.1 % 86400 = 0 := by
  unfold civil_Seconds.f at h
  split at h
  · split at h
    · obtain rfl := Option.some.inj h; cases h0
    · obtain rfl := Option.some.inj h
      show secAt y m 1 0 0 0 % 86400 = 0
      unfold secAt
      omega
  · rename_i hne
    obtain rfl := Option.some.inj h
    exact (hne h0).elim
theorem mon_mult (u n : Int) (h : (mon u n).2 = true) : (mon u n).1 % 86400 = 0 := by
  have hm := month_eq u n
  generalize mon u n = r at *
  unfold leap_month.f at hm
  obtain ⟨q, hq⟩ := of_total u
  rw [hq, Option.bind_some] at hm
  split at hm
  · split at hm
    · obtain ⟨s, hs⟩ := sec_total (wrap64 (q.1 + 1)) 1 1 0 0 0 0
      rw [hs, Option.bind_some] at hm
      obtain rfl := Option.some.inj hm
      exact sec_mult _ _ _ hs (beq_iff_eq.1 h)
    · obtain ⟨s, hs⟩ := sec_total q.1 (wrap64 (q.2.1 + n)) 1 0 0 0 0
      rw [hs, Option.bind_some] at hm
      obtain rfl := Option.some.inj hm
      exact sec_mult _ _ _ hs (beq_iff_eq.1 h)
  · obtain rfl := Option.some.inj hm
    cases h
def Good (o : Int) (p : Option Int) : List S44 → Prop
  | [] => True
  | x :: t => (∀ q, p = some q → q + 86400 ≤ x.f0) ∧ (x.f1 - o = 1 ∨ x.f1 - o = -1) ∧ Good x.f1 (some x.f0) t
theorem good_of : ∀ (l : List S44) (o : Int) (p : Option Int), (∀ q, p = some q → q % 86400 = 0) → chkL o p l = 0 → Good o p l
  | [], o, p, hp, h => trivial
  | x :: t, o, p, hp, h => by
    unfold chkL at h
    split at h
    · cases h
    · rename_i hm
      have hm : mon x.f0 0 = (x.f0, true) := by simpa using hm
      have hx : x.f0 % 86400 = 0 := by
        have := mon_mult x.f0 0 (by rw [hm])
        rw [hm] at this
        exact this
      split at h
      · cases h
      · rename_i hq
        split at h
        · rename_i hs
          refine ⟨fun q hq2 => ?_, hs, good_of t x.f1 (some x.f0) (fun q hq => by cases hq; exact hx) h⟩
          have h1 := hp q hq2
          have h2 : ¬ x.f0 ≤ q := fun hle => hq ⟨q, hq2, hle⟩
          omega
        · cases h
theorem taiF_nil (o u : Int) (x : Bool) : taiF o [] u x = if x = true then none else some (u + o) := rfl
theorem taiF_cons (o u : Int) (x : Bool) (e : S44) (t : List S44) : taiF o (e :: t) u x = if x = true then (if e.f0 = u + 1 ∧ e.f1 - o = 1 then some (u + o + 1) else none) else (if e.f0 = u + 1 ∧ e.f1 - o = -1 then none else some (u + o)) := rfl
theorem taiR_nil (o u : Int) (x : Bool) : taiR o [] u x = taiF o [] u x := rfl
theorem taiR_cons (o u : Int) (x : Bool) (e : S44) (t : List S44) : taiR o (e :: t) u x = if e.f0 ≤ u then taiR e.f1 t u x else taiF o (e :: t) u x := rfl
theorem utc_ge : ∀ (l : List S44) (o p T : Int), Good o (some p) l → p + o ≤ T → p ≤ (utcR o l T).1
  | [], o, p, T, _, h => by unfold utcR; show p ≤ T - o; omega
  | x :: t, o, p, T, hg, h => by
    obtain ⟨h1, h2, h3⟩ := hg
    have h1 := h1 p rfl
    unfold utcR
    split
    · split
      · show p ≤ x.f0 - 1; omega
      · show p ≤ T - o; omega
    · have := utc_ge t x.f1 x.f0 T h3 (by omega)
      omega
theorem one_way : ∀ (l : List S44) (o : Int) (p : Option Int) (T : Int), Good o p l → taiR o l (utcR o l T).1 (utcR o l T).2 = some T
  | [], o, p, T, _ => by simp [utcR, taiR, taiF]
  | x :: t, o, p, T, hg => by
    obtain ⟨h1, h2, h3⟩ := hg
    unfold utcR
    by_cases c : T < x.f0 + x.f1
    · rw [if_pos c]
      by_cases c2 : x.f1 > o ∧ T = x.f0 + x.f1 - 1
      · rw [if_pos c2]
        rw [taiR_cons, if_neg (show ¬ x.f0 ≤ x.f0 - 1 by omega), taiF_cons]
        simp only
        rw [if_pos trivial, if_pos (show x.f0 = x.f0 - 1 + 1 ∧ x.f1 - o = 1 by omega)]
        congr 1; omega
      · rw [if_neg c2]
        rw [taiR_cons, if_neg (show ¬ x.f0 ≤ T - o by omega), taiF_cons]
        simp only
        rw [if_neg (show ¬ (false = true) by decide), if_neg (show ¬ (x.f0 = T - o + 1 ∧ x.f1 - o = -1) by omega)]
        congr 1; omega
    · rw [if_neg c]
      have hge := utc_ge t x.f1 x.f0 T h3 (by omega)
      rw [taiR_cons, if_pos hge]
      exact one_way t x.f1 _ T h3
theorem tai_ge : ∀ (l : List S44) (o p u T : Int) (x : Bool), Good o (some p) l → taiR o l u x = some T → p ≤ u → p + o ≤ T
  | [], o, p, u, T, x, _, h, hu => by
    rw [taiR_nil, taiF_nil] at h
    split at h
    · cases h
    · obtain rfl := Option.some.inj h; omega
  | e :: t, o, p, u, T, x, hg, h, hu => by
    obtain ⟨h1, h2, h3⟩ := hg
    have h1 := h1 p rfl
    rw [taiR_cons] at h
    split at h
    · have := tai_ge t e.f1 e.f0 u T x h3 h (by assumption)
      omega
    · rw [taiF_cons] at h
      split at h
      · split at h
        · obtain rfl := Option.some.inj h; omega
        · cases h
      · split at h
        · cases h
        · obtain rfl := Option.some.inj h; omega
theorem other_way : ∀ (l : List S44) (o : Int) (p : Option Int) (u T : Int) (x : Bool), Good o p l → taiR o l u x = some T → utcR o l T = (u, x)
  | [], o, p, u, T, x, _, h => by
    rw [taiR_nil, taiF_nil] at h
    split at h
    · cases h
    · rename_i hx
      obtain rfl := Option.some.inj h
      unfold utcR
      exact Prod.ext (by simp only; omega) (by simpa using hx)
  | e :: t, o, p, u, T, x, hg, h => by
    obtain ⟨h1, h2, h3⟩ := hg
    rw [taiR_cons] at h
    split at h
    · rename_i hle
      have := tai_ge t e.f1 e.f0 u T x h3 h hle
      unfold utcR
      rw [if_neg (by omega)]
      exact other_way t e.f1 _ u T x h3 h
    · rename_i hle
      rw [taiF_cons] at h
      split at h
      · rename_i hx
        split at h
        · rename_i hc
          obtain rfl := Option.some.inj h
          unfold utcR
          rw [if_pos (by omega), if_pos (by omega)]
          exact Prod.ext (by simp only; omega) hx.symm
        · cases h
      · rename_i hx
        split at h
        · cases h
        · rename_i hc
          obtain rfl := Option.some.inj h
          unfold utcR
          rw [if_pos (by omega), if_neg (by omega)]
          exact Prod.ext (by simp only; omega) (by simpa using hx)
theorem utc_near : ∀ (l : List S44) (o p T : Int), Good o (some p) l → T ≤ p + o + 1000 → utcR o l T = (T - o, false)
  | [], o, p, T, _, h => rfl
  | x :: t, o, p, T, hg, h => by
    obtain ⟨h1, h2, h3⟩ := hg
    have h1 := h1 p rfl
    unfold utcR
    rw [if_pos (by omega), if_neg (by omega)]
theorem off_near : ∀ (l : List S44) (o p u : Int), Good o (some p) l → u ≤ p + 1000 → offR o l u = o
  | [], o, p, u, _, h => rfl
  | x :: t, o, p, u, hg, h => by
    obtain ⟨h1, h2, h3⟩ := hg
    have h1 := h1 p rfl
    unfold offR
    rw [if_neg (by omega)]
def Tick (o : Int) (l : List S44) (u : Int) (a : Bool) (v : Int) (c : Bool) : Prop :=
  (c = true → v = u ∧ a = false ∧ offR o l (u + 1) - offR o l u = 1) ∧
  (c = false → (v - u = 2 ∧ a = false ∧ offR o l v - offR o l u = -1) ∨ (v - u = 1 ∧ (a = true → offR o l v - offR o l u = 1)))
theorem ticks : ∀ (l : List S44) (o : Int) (p : Option Int) (T : Int), Good o p l → Tick o l (utcR o l T).1 (utcR o l T).2 (utcR o l (T + 1)).1 (utcR o l (T + 1)).2
  | [], o, p, T, _ => ⟨fun h => (by cases h), fun _ => .inr ⟨by simp only [utcR]; omega, fun h => (by cases h)⟩⟩
  | x :: t, o, p, T, hg => by
    obtain ⟨h1, h2, h3⟩ := hg
    by_cases c : T < x.f0 + x.f1
    · by_cases c1 : T + 1 < x.f0 + x.f1
      · by_cases c3 : x.f1 > o ∧ T + 1 = x.f0 + x.f1 - 1
        · have e1 : utcR o (x :: t) T = (T - o, false) := by unfold utcR; rw [if_pos c, if_neg (by omega)]
          have e2 : utcR o (x :: t) (T + 1) = (x.f0 - 1, true) := by unfold utcR; rw [if_pos c1, if_pos c3]
          rw [e1, e2]
          refine ⟨fun _ => ⟨by simp only; omega, rfl, ?_⟩, fun h => (by cases h)⟩
          show offR o (x :: t) (T - o + 1) - offR o (x :: t) (T - o) = 1
          have f1 : offR o (x :: t) (T - o + 1) = x.f1 := by
            unfold offR; rw [if_pos (by omega)]; exact off_near t x.f1 x.f0 _ h3 (by omega)
          have f2 : offR o (x :: t) (T - o) = o := by unfold offR; rw [if_neg (by omega)]
          rw [f1, f2]; omega
        · have e1 : utcR o (x :: t) T = (T - o, false) := by unfold utcR; rw [if_pos c, if_neg (by omega)]
          have e2 : utcR o (x :: t) (T + 1) = (T + 1 - o, false) := by unfold utcR; rw [if_pos c1, if_neg c3]
          rw [e1, e2]
          exact ⟨fun h => (by cases h), fun _ => .inr ⟨by simp only; omega, fun h => (by cases h)⟩⟩
      · have e2 : utcR o (x :: t) (T + 1) = (T + 1 - x.f1, false) := by
          unfold utcR; rw [if_neg c1]; exact utc_near t x.f1 x.f0 _ h3 (by omega)
        have g1 : offR o (x :: t) (T + 1 - x.f1) = x.f1 := by
          unfold offR; rw [if_pos (by omega)]; exact off_near t x.f1 x.f0 _ h3 (by omega)
        by_cases c3 : x.f1 > o ∧ T = x.f0 + x.f1 - 1
        · have e1 : utcR o (x :: t) T = (x.f0 - 1, true) := by unfold utcR; rw [if_pos c, if_pos c3]
          rw [e1, e2]
          refine ⟨fun h => (by cases h), fun _ => .inr ⟨by simp only; omega, fun _ => ?_⟩⟩
          show offR o (x :: t) (T + 1 - x.f1) - offR o (x :: t) (x.f0 - 1) = 1
          have f2 : offR o (x :: t) (x.f0 - 1) = o := by unfold offR; rw [if_neg (by omega)]
          rw [g1, f2]; omega
        · have e1 : utcR o (x :: t) T = (T - o, false) := by unfold utcR; rw [if_pos c, if_neg c3]
          rw [e1, e2]
          refine ⟨fun h => (by cases h), fun _ => .inl ⟨by simp only; omega, rfl, ?_⟩⟩
          show offR o (x :: t) (T + 1 - x.f1) - offR o (x :: t) (T - o) = -1
          have f2 : offR o (x :: t) (T - o) = o := by unfold offR; rw [if_neg (by omega)]
          rw [g1, f2]; omega
    · have e1 : utcR o (x :: t) T = utcR x.f1 t T := by rw [utcR, if_neg c]
      have e2 : utcR o (x :: t) (T + 1) = utcR x.f1 t (T + 1) := by rw [utcR, if_neg (by omega)]
      have g1 := utc_ge t x.f1 x.f0 T h3 (by omega)
      have g2 := utc_ge t x.f1 x.f0 (T + 1) h3 (by omega)
      have ih := ticks t x.f1 _ T h3
      rw [e1, e2]
      have f : ∀ w, x.f0 ≤ w → offR o (x :: t) w = offR x.f1 t w := fun w hw => by rw [offR, if_pos hw]
      unfold Tick at ih ⊢
      rw [f _ g1, f _ (by omega), f _ g2]
      exact ih
theorem utc_bad (k : Nat) (hk : 400 ≤ k) (b e : Int) (l : List S44) (hc : chk b e l ≠ 0) (T : Int) : leap_UTC.f k b e l T = some (0, false, chk b e l) := by
  unfold leap_UTC.f
  rw [check_eq k hk, Option.bind_some, if_neg hc]
theorem tai_bad (k : Nat) (hk : 400 ≤ k) (b e : Int) (l : List S44) (hc : chk b e l ≠ 0) (u : Int) (x : Bool) : leap_TAI.f k b e l u x = some (0, chk b e l) := by
  unfold leap_TAI.f
  rw [check_eq k hk, Option.bind_some, if_neg hc]
theorem small_eq (b e : Int) (l : List S44) : w6_small.f b e l = some (decide ((l.length : Int) ≤ 70)) := rfl
theorem awake_at' (k : Nat) (hk : 400 ≤ k) : ((w6_awake.f k).bind fun t => some t) = some true := by
  rw [awake_at k (by omega)]; rfl
theorem utc_ok {b : Int} {l : List S44} {T : Int} (h : (utc b l T).2.2 = 0) : (-8000002000 ≤ T ∧ T ≤ 8000002000) ∧ (-8000000000 ≤ (utcR b l T).1 ∧ (utcR b l T).1 ≤ 8000000000) ∧ utc b l T = ((utcR b l T).1, (utcR b l T).2, 0) := by
  unfold utc at h ⊢
  split at h
  · cases h
  · split at h
    · rename_i h1 h2
      rw [if_neg h1, if_pos h2]
      exact ⟨by omega, h2, rfl⟩
    · cases h
theorem taiR_b {o : Int} {l : List S44} {u T : Int} {x : Bool} (ho : -1000 ≤ o ∧ o ≤ 1000) (hE : ∀ e ∈ l, EntOk e) (hu : -8000000000 ≤ u ∧ u ≤ 8000000000) (h : taiR o l u x = some T) : -8000002000 ≤ T ∧ T ≤ 8000002000 := by
  rw [taiR_eq] at h
  have hb := offR_b ho hE u
  generalize offR o l u = q at *
  generalize l.drop (cnt l u) = r at *
  unfold taiF at h
  split at h
  · split at h
    · cases h
    · obtain rfl := Option.some.inj h; omega
  · split at h
    · split at h
      · obtain rfl := Option.some.inj h; omega
      · cases h
    · split at h
      · cases h
      · obtain rfl := Option.some.inj h; omega
end Go.Proofs.YtipbkcilpnlgnaaDoor.M
end
